/- What the proof of this claim leans on, part 3. -/
import Derived.Test.YtbnkgnfhgbhblaaGreatFMendCutsp2
set_option linter.all false
set_option maxRecDepth 100000
open Go Go.Esc
noncomputable section
open Bool renaming and_eq_true→D9v,false_and→D9L,false_eq_true→E0v,not_eq_true'→E0e,not_false→E0E,or_eq_true→E0y,true_and→D9R,false→A6,true→A5
open Int renaming cast_ofNat_Int→E0r,toNat_natCast→D9N
open IntKind renaming wrap→D9B
open List renaming all_cons→E0j,all_eq_true→E0k,append_assoc→D9C,append_nil→D9Q,cons_append→D99,drop_drop→E0t,drop_eq_getElem_cons→D9E,drop_left'→E0s,drop_of_length_le→D9K,drop_zero→D9O,ext_getElem?→E0q,filter_cons→E0H,flatten_cons→E0l,getD_eq_getElem?_getD→D9z,getElem?_append_left→D94,getElem?_append_right→D9P,getElem?_cons_succ→D9Z,getElem?_drop→E0u,getElem?_eq_getElem→D9u,getElem?_eq_none→D9W,getElem?_map→E0C,getElem?_take_of_lt→D97,getElem_mem→D9Y,length_append→D9A,length_cons→D9G,length_drop→E0f,length_filter_le→E0m,length_nil→D95,length_replicate→D9X,length_set→E0c,length_take→D91,map_append→E0h,map_cons→E0d,mem_cons→E0B,mem_cons_of_mem→D9F,mem_cons_self→D9I,mem_of_getElem?→D9S,nil_append→D9U,range→D90,range'→E0g,replicate→D9w,replicate_succ→D92,set_append_right→D96,set_cons_zero→E0w,take_of_length_le→D9M,take_succ_eq_append_getElem→D9V,take_zero→E0z
open Nat renaming add_mul→E0A,add_zero→E0D,le_refl→D9x,le_trans→D93,min→E0J,min_eq_left→E0F,mod_eq_of_lt→E0G,sub_self→E0p,zero_add→D9T,zero_le→E0I
open Option renaming bind_some→D9H,isSome_none→E0n,isSome_some→D98,map_some→E0b,none→A7,some→A4
open Option.some renaming injEq→D9y
open Prod.mk renaming injEq→D9D
open Go.Proofs.Tryz renaming prog→A8
namespace Go.Proofs.YtbnkgnfhgbhblaaGreat
section
variable (n m m2:Nat) (a0 x1 x2 x3 x4 x6 x7 x8 x17 x33 x34 x44 x45:Val) (h:A9)
def uF:FD A8:=⟨px 0X118f20306197ffffd0191b1a71b701104261700523201042,[],[],[.tmp 2],[]⟩
def B0l:=uF.R
def B4Y:=mR B0l uF (tT []) n [a0] h
def B0f:=uF.K Tryz.func247
def A2M:=uF.S
def B1t:G3 B0l A2M:=B0f.flat
def aW:FD A8:=⟨px 0X124a76487182112022a393e172d041a3e282b4222202321ff18051e02218022a42e172d281281c04181bf11af4061867a414181a1821503070245133901212b420060511061841a62b3291f18203394c1742394c03a253182,[],[],[.cellN 2 7],[]⟩
def wN:=aW.R
def A37:AtH:=aW.lj 0 n [m] [x1,x2,x3,x7,x8]
def A6c:=tT [⟨2,5,A37⟩]
def B09:=mR wN aW A6c n [a0] h
def xP:=mL aW A6c 0 n [m] [x1,x2,x3,x7,x8] h
def mX:=aW.K Tryz.func125
def aX:=aW.S
def A7L:G3 wN aX:=mX.flat
def fL:FD A8:=⟨px 0X11201026bf5d051c06b4921801520150000722403f01034f68031cd0525ff404677a219421503070242133d01211bd42006051101131f1b5b1c31bb1b9182013015201500622401b181949c8890519c1a019c1e21f19c1f0101b181910118a1a018a1e21f18a1f0101b1a1906e4d0106e2f06e1e36e6e1f0103f01030415c2f2b2c1ad422053015201500622401b2a1930183a7b04b4e03b4b6d4a1b4b3c03a71023a1a03a1e03a3a1f0101b18191905281a0281e028281f0110120401852b2a5d42031103a2342,[],[.eqA A5 ([.i .i64,.i .i64,.i .i64,.i .i64,.i .i64,.i .i64,.i .i64,.i .i64,.i .i64,.i .i64,.i .i64]) (.t 18) (.t 19)],[.tmp 2],[E1 A2M B0f,E1 aX mX]⟩
def A2v:=fL.R
def A8M:AtH:=fL.lj 0 n [m] [x44,x45]
def B0r:=tT [⟨2,2,A8M⟩]
def B4W:=mR A2v fL B0r n [a0] h
def A12:=mL fL B0r 0 n [m] [x44,x45] h
def B0d:=fL.K Tryz.func230
def A2K:=fL.S
def B1r:G3 A2v A2K:=B0d.flat
def dN:FD A8:=⟨px 0X113022f4864f486e1c3711111726df5d052802218022a184f1482d0406f14882d1a8119e6806185ff1904122b4235032702441328901211bd420162515d011bb78182222222335cf4a052c0221826f488601941a41318c105902019627f16f4884e1c7184df14cf7061877a4146e781821503070245133d012118f42006051101237e1b18318d18b18201326a48860194964130437855c4881850225a48860292964130426854c4881850224a48860191964130415853c4881850223a488605164130404852c488281c5021c61b11d19411d2011ff3003a4862c12c48184711101722410321e1c023b421bf5001032a1b1a1c31b42031d4c11942111d4c03a353182,[],[],[.cellN 2 32,.tmp 3],[E1 A2K B0d,E1 nH A0b,E1 aX mX]⟩
def A7j:=dN.R
def B3O:AtH:=dN.lj 0 n [m] [x2,x4,x6,x33,x34]
def B3P:AtH:=dN.lj 1 n [m] [x2,x4,x6,x45]
def A7W:=tT [⟨2,5,B3O⟩,⟨2,4,B3P⟩]
def B86:=mR A7j dN A7W n [a0] h
def A6o:=mL dN A7W 0 n [m] [x2,x4,x6,x33,x34] h
def A6p:=mL dN A7W 1 n [m] [x2,x4,x6,x45] h
def A6X:=dN.K Tryz.func189
def A1D:=dN.S
def B5k:G3 A7j A1D:=A6X.flat
def nV:FD A8:=⟨px 0X127c1b6781b182112022a1a6e5191b903136c4883d1c42210323cf29052e02218422a1e0162d45c51901831305902019624a14c488183e2c019182bf504123a421503070244133901214d4200605129014b420328f21b613b045a0136121a111e1043b3b194903132e48818292903132a48818191903131e488185103131a488181c1a11919437f248861c31b0103067d470523b4c03a253182,[],[.slA 32 1 (.t 1) A7 A7],[.cellN 2 11],[E1 A3D A60,E1 vB A3n]⟩
def A7i:=nV.R
def B3M:AtH:=nV.lj 0 n [m] [x2,x3,x4,x17]
def B6N:=tT [⟨2,4,B3M⟩]
def B85:=mR A7i nV B6N n [a0] h
def A6n:=mL nV B6N 0 n [m] [x2,x3,x4,x17] h
def B6x:=nV.K Tryz.func200
def A7K:=nV.S
def B5j:G3 A7i A7K:=B6x.flat
def uE:FD A8:=⟨px 0X11b302581b64c1b2e1c3020133024e1b603b3b3711622401b18190484e4a48483c3848483c011032281e07592200721df11cf24861d51b11828061c2c1bf19001131c1b1a1c181d1b61c201318f21b63b41b01031c4871c41942313b4c03a353182,[],[.eqA A5 (D9w 32 (.i .u8)) (.t 17) (.t 18)],[.cellN 2 11,.tmp 3],[E1 A7K B6x,E1 A1D A6X]⟩
def A2w:=uE.R
def B4X:=mR A2w uE (tT []) n [a0] h
def B0e:=uE.K Tryz.func144
def A2L:=uE.S
def B1s:G3 A2w A2L:=B0e.flat
def pC:FD A8:=⟨px 0X11cf20288901a25072288900271905020118b9201500622418f6049c88905277031d401921120120062245f305012740374205031201042,[],[],[.tmp 2],[]⟩
def A7h:=pC.R
def B2C:=mR A7h pC (tT []) n [a0] h
def A6W:=pC.K Tryz.func94
def A0v:=pC.S
def A9Y:G3 A7h A0v:=A6W.flat
end
section
variable (n m m2:Nat) (a0 a1 x2 x3 x4 x12 x13 x14:Val) (h:A9)
def uH:FD A8:=⟨px 0X1120102011920150522401b1c190654c1a0288974c1a4c4c704c1e04c4c1f0101b18191013a1a03a1e03a3a1f0101b6192889052a1a1e2a701501218702a694200236f30029041642b47421103a2342,[],[],[.tmp 2],[]⟩
def A2y:=uH.R
def B44:=mR A2y uH (tT []) n [a0] h
def B0h:=uH.K Tryz.func190
def A2O:=uH.S
def B1x:G3 A2y A2O:=B0h.flat
def nY:FD A8:=⟨px 0X125c4886684883a1c2111110043239f1e052e02218022a45c14882d4a10402481040482b2b7182af128f500461a11d4152a2c182150307024613401213f42006051102904128543d3b3972825430121c488628488182100032241032010318271c32b42031c4c43a422e319751c2,[],[],[.cellN 4 256],[E1 A2O B0h]⟩
def A7n:=nY.R
def B4h:AtH:=nY.lj 0 n [m] [x2,x3,x4,x12,x13,x14]
def B6P:=tT [⟨2,6,B4h⟩]
def B9d:=mR A7n nY B6P n [a0,a1] h
def A6v:=mL nY B6P 0 n [m] [x2,x3,x4,x12,x13,x14] h
def A61:=nY.K Tryz.func121
def A1G:=nY.S
def B9A:SOk A8 121 A1G:=A61.sok
def B5t:G3 A7n A1G:=A61.flat
end
section
variable (n m m2:Nat) (a0 a1 a2 x1 x2 x4 x5 x14:Val) (h:A9)
def uJ:FD A8:=⟨px 0X115026a26011181022d3b0413903800013e28906273801802012ff5004e2648102d3b44811101722410323a2c025b01823132bf12af24861d61b11828062a2c29f1f001033a1b281c181f1d111d201195022c2602d3b3281000722401b61949042c1a72c7011012718063b4203112d4c432e319701c2,[],[.slA 32 1 (.t 6) A7 A7],[.cellN 4 2,.tmp 5],[E1 A1D A6X]⟩
def A2B:=uJ.R
def B47:=mR A2B uJ (tT []) n [a0,a1] h
def B0j:=uJ.K Tryz.func120
def A2R:=uJ.S
def B1z:C5u A2B A2R:=B0j.tidy
def yH:FD A8:=⟨px 0X11702484886042133a2184a4882c1c502012bf7003a48862c13e4881842c11101722410321e28024b01823131ff11ef2262d181b11a280181e2c1df1a0042031e1b182c1b0192b29101a2111c4c652e632e41d1b73282,[],[],[.cellN 6 256,.tmp 7],[E1 A2R B0j,cal B9A]⟩
def A4Y:=yH.R
def B74:=mR A4Y yH (tT []) n [a0,a1,a2] h
def A4C:=yH.K Tryz.func55
def pZ:=yH.S
def B24:G3 A4Y pZ:=A4C.flat
def nZ:FD A8:=⟨px 0X125c4865a483a1c21110023239f1e052e02218022a1e4e1482d0405814882d04023c12890624a12e290191828f604122a4215030702451328901213f42006051113d531c228430122a486284818211001322401b61949042a1a2a2a70110121c7063942031d4c11b421d41b422e219531c2,[],[],[.cellN 4 32],[]⟩
def A7s:=nZ.R
def B4v:AtH:=nZ.lj 0 n [m] [x1,x2,x4,x5,x14]
def B6Q:=tT [⟨2,5,B4v⟩]
def B9h:=mR A7s nZ B6Q n [a0,a1] h
def A6x:=mL nZ B6Q 0 n [m] [x1,x2,x4,x5,x14] h
def B6A:=nZ.K Tryz.func145
def A7P:=nZ.S
def B5y:G3 A7s A7P:=B6A.flat
def A1m:FD A8:=⟨px 0X12af5003c1b6142800280113042033a12e4881d1c1802013502281b603b3b31c1000722401b6194904281a282870110121a162f4203313b41b422e319531c2,[],[],[.cellN 4 11,.tmp 5],[E1 A7P B6A,E1 A2L B0e]⟩
def A7r:=A1m.R
def B9g:=mR A7r A1m (tT []) n [a0,a1] h
def B6z:=A1m.K Tryz.func77
def A7O:=A1m.S
def B5x:G3 A7r A7O:=B6z.flat
end
section
variable (n m m2:Nat) (a0 a1 x1 x3 x14 x15:Val) (h:A9)
def A9e:FD A8:=⟨px 0X113027e4601343022e3b6c1595e6e33f1c5611623ef22a261b0448839710004883c5d51d191192016d3026a4602e3b371100722401b1c19063581a0584b75870581e04a581f0110323a2a0196d4231329f128f2362a41b11c2801a282c1ff1b00103048818104881d71c01a1b19611d2016d302284602e3b37106224102202977032b4203112e21b250182,[],[],[.cellN 2 4,.tmp 3],[E1 A1H A64]⟩
def C2F:=A9e.R
def yK:=mR C2F A9e (tT []) n [a0] h
def A9i:=A9e.K Tryz.func12
def oG:=A9e.Q
def yV:OfT C2F oG:=A9i.of
def gM:FD A8:=⟨px 0X12af40301c190181391a0391e00391f038391f383970130619104291a2829701038043651f00062340422e253182,[],[.eqN A5 A5 (.t 6)],[.tmp 4],[]⟩
def pO:=gM.R
def A7x:=mR pO gM (tT []) n [a0,a1] h
def A1v:=gM.K Tryz.func146
def qH:=gM.S
def A5g:G3 pO qH:=A1v.flat
def A1o:FD A8:=⟨px 0X12184886048818044881d7164500221c31b17301c2,[],[],[.cellN 3 256],[]⟩
def A7v:=A1o.R
def B9l:=mR A7v A1o (tT []) n [a0,a1] h
def B6F:=A1o.K Tryz.func41
def A1K:=A1o.S
def B5B:G3 A7v A1K:=B6F.flat
def R2:FD A8:=⟨px 0X122a48860145f2e10432855020121a488601c3b21000322403f042031a1641842942031c41b422e219531c2,[],[],[.cellN 4 256],[E1 qH A1v,E1 A1K B6F]⟩
def cM:=R2.R
def nT:J9:=R2.E
def A3F:TT:=⟨nT,[]⟩
def A0m:=mR cM R2 A3F n [a0,a1] h
def E8:=R2.K Tryz.func78
def E3:=R2.S
def wP:G3 cM E3:=E8.flat
def gL:FD A8:=⟨px 0X126a1b65a1b3d1c21123cf13bf21b63b181b11e2801c3b2c3af2d0042234e1042134c15842e1c1b3842012481b603b3b211101322403f2e2a024f4241329f128f11ff5021e2811c2801a1f2c1ef1a004203381031802a1b2b1b1f1d1b01d23b41b422e219531c2,[],[],[.cellN 4 11],[E1 yP A4y,E1 E3 E8,E1 A7O B6z]⟩
def gN:=gL.R
def vA:=mR gN gL (tT []) n [a0,a1] h
def Q1:=gL.K Tryz.func35
def K9:=gL.S
def qG:G3 gN K9:=Q1.flat
def V0:FD A8:=⟨px 0X139f205c390250000027238f1f052a02218024886181a4881d042134a14e4183e13e2a071829f40412384215030702441340121494200605110292c1d033f3d41c20131cf30004881c6b04005028192b5720192014882481500622410320103031801852b42942034884a03a2342,[],[],[.tmp 2],[E1 bT fN,E1 E3 E8]⟩
def pN:=V0.R
def A08:AtH:=V0.lj 0 n [m] [x1,x3,x14,x15]
def A1M:=tT [⟨2,4,A08⟩]
def A7w:=mR pN V0 A1M n [a0] h
def sK:=mL V0 A1M 0 n [m] [x1,x3,x14,x15] h
def A1u:=V0.K Tryz.func51
def qF:=V0.S
def A6G:A4D pN qF:=A1u.out
def jZ:FD A8:=⟨px 0X13af40301c190423592f35e5970422592f01592f4e4593c01301c1901813b1a03b1e003b1f03a3b1f3a3b701306191042b1a2a2b7011022010303180652c01900063340422e253182,[],[],[.tmp 4],[E1 bT fN,E1 sY zZ,E1 E3 E8,E1 A7A B6u]⟩
def sU:=jZ.R
def A9Q:=mR sU jZ (tT []) n [a0,a1] h
def A3o:=jZ.K Tryz.func62
def sZ:=jZ.S
def A6H:G3 sU sZ:=A3o.flat
end
def IsView (h:A9) (f:Cell) (D:Dev):Prop:=∃ r q rw rw',f=.f 41 [(r,0)]/\rd h r=A4 ⟨[.sl q 0 D.length 256],rw⟩/\rd h q=A4 ⟨C8 D,rw'⟩
def IsView.ro {h:A9} {f:Cell} {D:Dev} (hv:IsView h f D):IsView (ro h) f D:=by
 obtain ⟨r,q,rw,rw',e,h1,h2⟩:=hv;exact ⟨r,q,A6,A6,e,B4m h1 rfl,B4m h2 (T5 D)⟩
def IsView.more {h:A9} {f:Cell} {D:Dev} (hv:IsView h f D) (l:A9):IsView (h++l) f D:=by
 obtain ⟨r,q,rw,rw',e,h1,h2⟩:=hv;exact ⟨r,q,rw,rw',e,B6 h1,B6 h2⟩
def IsView.since {g h:A9} {f:Cell} {D:Dev} (hv:IsView g f D) (h1:Low g.length g h):IsView h f D:=by
 obtain ⟨r,q,rw,rw',e,h2,h3⟩:=hv;exact ⟨r,q,rw,rw',e,h1.rd h2,h1.rd h3⟩
def IsView.get {h:A9} {f:Cell} {D:Dev} (hv:IsView h f D):∃ id cs,f=.f id cs:=by
 obtain ⟨r,q,rw,rw',e,_⟩:=hv;exact ⟨_,_,e⟩
def vwC (b n m:Int) (f:Cell):List Cell:=[.i .i64 b,.i .i64 n,.i .u64 m,f]
section
variable {D:Dev} {n m:Int} {f:Cell}
def B4C {b:Int}:ldN (rT (vwC b n m f)) 0 3=A4 (.a (J8 b n m)):=rfl
def B4D {b:Int}:ldN (rT (vwC b n m f)) 0 4=A4 (.a (vwC b n m f)):=rfl
end
def C5i {h:A9} {r q:Nat} {rw rw':Bool} {D:Dev} {no:Nat} (hD:okD D) (aK:no<D.length) (h1:rd h r=A4 ⟨[.sl q 0 D.length 256],rw⟩) (h2:rd h q=A4 ⟨C8 D,rw'⟩) :
  A1K [iV (no:Int),pV r 0] h=A4 (.a (B4 D[no]),h):=by
 have key:∀ g rw rw',rd g r=A4 ⟨[.sl q 0 D.length 256],rw⟩->rd g q=A4 ⟨C8 D,rw'⟩->∃ g',A7v 0 [iV (no:Int),pV r 0] g=A4 (.a (B4 D[no]),g'):=by
  intro g rw rw' h1 h2;have hz:(D9w 256 (Cell.i .u8 0)).length=256:=D9X;have hB:(B4 D[no]).length=256:=by rw [B5,hD.at aK]
  have l1:B8 (g++[rT (D9w 256 (.i .u8 0))]) (pV r 0)=A4 (sV q 0 D.length 256):=B9 (cs:=[.sl q 0 D.length 256]) (B6 h1) rfl (by cases rw<;>rfl);have a1:E5 256 (sV q 0 D.length 256) (iV (no:Int))=A4 (pV q (0+no*256)):=D8 aK;have l2:D3 (g++[rT (D9w 256 (.i .u8 0))]) 256 (pV q (0+no*256))=A4 (.a (B4 D[no])):=by
   rw [T2 (cs:=C8 D) (rw:=rw') (B6 h2) (by rw [F0 hD];omega) (by
    rw [D9T,kE hD aK,R7];simp),D9T,kE hD aK]
  rw [D9T] at a1 l2;rw [B9l];generalize D9w 256 (Cell.i .u8 0)=z at *;generalize B4 D[no]=y at *;exact ⟨_,by simp only [esc,esh,l1,a1,l2,hz,hB]<;>rfl⟩
 obtain ⟨g',e⟩:=key (ro h) A6 A6 (B4m h1 rfl) (B4m h2 (T5 D));exact B5B e (by simp [Val.flat])
def C2y {b n m no:Int} {f:Nat} {cs:List (Nat × Nat)} {h:A9}:qH [.a (vwC b n m (.f f cs)),iV no] h=A4 (bV (decide (0<=no)&&decide (no<b)),h):=by
 have key:∀ g,∃ g',pO 0 [.a (vwC b n m (.f f cs)),iV no] g=A4 (bV (decide (0<=no)&&decide (no<b)),g'):=by
  intro g;rw [A7x];unfold vwC;by_cases c1:0<=no
  ·exact ⟨_,by simp only [esc,esh,c1]<;>rfl⟩
  ·exact ⟨_,by simp only [esc,esh,c1,D9L]<;>rfl⟩
 obtain ⟨g',e⟩:=key (ro h);exact A5g e rfl
def N1 {n m no:Int} {f:Cell} {D:Dev} {h:A9} (hD:okD D) (hv:IsView h f D):E3 [.a (vwC D.length n m f),iV no] h=A4 (.a (B4 (blk D no)),h):=by
 have key:∀ g,IsView g f D->∃ g',cM 0 [.a (vwC D.length n m f),iV no] g=A4 (.a (B4 (blk D no)),g'):=by
  intro g hv;have hz:(B4 (zeros 256)).length=256:=by rw [B5];exact zeros_length
  have hB:(B4 (blk D no)).length=256:=by rw [B5,J3 hD]
  obtain ⟨r,q,rw',rw'',rfl,h1,h2⟩:=hv;have hT:=λh=>C2y (b:=D.length) (n:=n) (m:=m) (no:=no) (f:=41) (cs:=[(r,0)]) (h:=h)
  have hcv:∀ (x:Val) (h:A9),qT nT (.c (.f 41 [(r,0)])) [x] h=A1K [x,pV r 0] h:=λ_ _=>Eq.trans rfl rfl
  rw [A0m,F7];by_cases c1:0<=no/\no<D.length
  ·have c2:=c1.1;have c3:=c1.2;obtain ⟨k,rfl⟩:∃ k:Nat,no=k:=⟨no.toNat,by omega⟩;have e1:=A76 (D:=D) (i:=k) (by omega);have hO:=C5i (h:=g++[rT (vwC D.length n m (.f 41 [(r,0)])),rT (B4 (zeros 256))]) hD (show k<D.length by omega) (B6 h1) (B6 h2);rw [<-e1] at hO;simp only [c2,c3,decide_true,Bool.and_self] at hT;generalize B4 (zeros 256)=z at *;generalize B4 (blk D k)=y at *;unfold vwC at *;exact ⟨_,by simp only [esc,esh,Nat.reduceAdd,hT,hcv,hO,hz,hB]<;>rfl⟩
  ·have e1:=D2t (D:=D) (i:=no) (by omega);have ht:(decide (0<=no)&&decide (no<(D.length:Int)))=A6:=by
    rw [Bool.and_eq_false_iff,decide_eq_false_iff_not,decide_eq_false_iff_not];omega
   simp only [ht] at hT;rw [e1] at hB ⊢;have ef:E7 (B4 (zeros 256)) []=A4 (B4 (zeros 256)):=rfl;generalize B4 (zeros 256)=z at *;unfold vwC at *;exact ⟨_,by simp only [esc,esh,Nat.reduceAdd,hT,ef,hz]<;>rfl⟩
 obtain ⟨g',e⟩:=key (ro h) hv.ro;exact wP e (by simp [Val.flat])
def D4K {h:A9} {id m sz:Nat} {ys:List Cell} {y:Val} (hr:rd h id=rT []) (hy:Has h y sz m ys) (hsz:0<sz) (hn:m<=1073741824) :
  qK h sz (sV id 0 0 sz) y=A4 (sV h.length 0 m sz,h.set id A7++[rT ys]):=by
 have h1:=hy.add;have h2:ys.length/sz=m:=by rw [hy.length];exact Nat.mul_div_cancel m hsz
 simp only [qK,h1,hr,D9H,h2,D9U,D9T];rw [if_pos ⟨trivial,trivial,by simp,trivial,hn⟩]
def A5w (D:Dev):Bool:=okS (D.headD [])&&decide (fieldN (D.headD []) 8 2=D.length)
def yX (D:Dev):Int:=fieldN (D.headD []) 10 2
def C57 (D:Dev):Int:=fieldN (D.headD []) 12 8
def C7N {v:Val} {h:A9} (hv:Has h v 256 0 []):∃ t,oG [v] h=A4 (.t [.a (vwC 0 0 0 .nf),.c (.i .i64 13)],h++t):=by
 have ef:E7 [o0,o0,.i .u64 0,.nf] []=A4 [o0,o0,.i .u64 0,.nf]:=rfl;have hl:=hv.len;rw [show ((0:Nat):Int)=0 from rfl] at hl;exact ⟨_,yV (n:=0) (by rw [yK];simp only [esc,esh,Nat.reduceAdd,hl,ef,vwC]<;>rfl)⟩
def D5k {b:List UInt8} (h:okS b=A6):C4K b=J8 0 0 0:=by unfold C4K;rw [h];rfl
def C9W {b:List UInt8} (h:okS b=A5):C4K b=J8 (fieldN b 8 2) (fieldN b 10 2) (fieldN b 12 8):=by unfold C4K;rw [h];rfl
def C9n {v:Val} {D:Dev} {h:A9} (hv:Has h v 256 D.length (C8 D)) (hD:okD D) (h0:0<D.length) (hn:A5w D=A6):∃ t,oG [v] h=A4 (.t [.a (vwC 0 0 0 .nf),.c (.i .i64 13)],h++t):=by
 have ef:E7 [o0,o0,.i .u64 0,.nf] []=A4 [o0,o0,.i .u64 0,.nf]:=rfl;have hl:=hv.len;have hv2:=hv.more [rT [o0,o0,.i .u64 0,.nf]];obtain ⟨b,E,rfl⟩:∃ b E,D=b::E:=by cases D with | nil=>simp at h0 | cons b E=>exact ⟨b,E,rfl⟩
 obtain ⟨id,off,rfl,hid,_,hB⟩:=hv2.sl h0;have hBl:(B4 b).length=256:=by rw [B5,hD.cons.1]
 have l2:=hB 0 256 (by rw [F0 hD];omega);have ec:((C8 (b::E)).drop 0).take 256=B4 b:=by
  have:=kE (i:=0) hD h0
  rwa [Nat.zero_mul] at this
 rw [ec,E0D] at l2;have a1:E5 256 (sV id off (b::E).length 256) (iV 0)=A4 (pV id off):=by
  have:=D8 (k:=.i64) (id:=id) (off:=off) (sz:=256) (j:=0) (len:=(b::E).length) h0
  rwa [Nat.zero_mul,E0D] at this
 have hG:=λh=>A5W (h:=h) hD.cons.1
 have c0:¬ (((b::E).length:Nat):Int)=0:=by omega
 have n13:¬ (13:Int)=0:=by decide
 unfold A5w at hn;simp only [List.headD_cons] at hn;cases ho:okS b with
 | false =>
  simp only [ho,D5k ho,cond_false] at hG;refine ⟨[rT [o0,o0,.i .u64 0,.nf],rT [o0,o0,.i .u64 0]],yV (n:=0) ?_⟩;rw [yK];generalize (b::E).length=N at *;generalize B4 b=y at *;unfold J8 at *;simp only [esc,esh,Nat.reduceAdd,ef,vwC,l2,a1,hG,n13,eq_self,c0]<;>rfl
 | true =>
  rw [ho,D9R] at hn
  replace hn:=of_decide_eq_false hn
  simp only [ho,C9W ho,cond_true] at hG;refine ⟨[rT [o0,o0,.i .u64 0,.nf],rT [.i .i64 (fieldN b 8 2),.i .i64 (fieldN b 10 2),.i .u64 (fieldN b 12 8)]],yV (n:=0) ?_⟩;rw [yK];generalize (b::E).length=N at *;generalize B4 b=y at *;generalize fieldN b 8 2=n1 at *;unfold J8 at *;simp only [esc,esh,Nat.reduceAdd,ef,vwC,l2,a1,hG,eq_self,c0,hn]<;>rfl
def C7M {v:Val} {D:Dev} {h:A9} (hv:Has h v 256 D.length (C8 D)) (hD:okD D) (hn:A5w D=A6):∃ t,oG [v] h=A4 (.t [.a (vwC 0 0 0 .nf),.c (.i .i64 13)],h++t):=by
 by_cases h0:D=[]
 ·subst h0;exact C7N hv
 ·exact C9n hv hD (List.length_pos_iff.2 h0) hn
def A5Y {v:Val} {D:Dev} {h:A9} (hv:Has h v 256 D.length (C8 D)) (hD:okD D) (hn:A5w D=A5) (h60:D.length<=1073741824) :
  ∃ f t,oG [v] h=A4 (.t [.a (vwC D.length (yX D) (C57 D) f),.c o0],h++t)/\IsView (h++t) f D:=by
 obtain ⟨b,E,rfl⟩:∃ b E,D=b::E:=by
  cases D with
  | nil=>simp only [A5w,List.headD_nil,D95,D9v] at hn;exact absurd hn.1 (by decide)
  | cons b E=>exact ⟨b,E,rfl⟩
 have h0:0<(b::E).length:=by simp
 have hv2:=hv.more [rT [o0,o0,.i .u64 0,.nf]];unfold A5w at hn;simp only [List.headD_cons,D9v] at hn;have ho:=hn.1;have hn2:=of_decide_eq_true hn.2;have hv3:=hv.more [rT [o0,o0,.i .u64 0,.nf],rT (J8 (b::E).length (fieldN b 10 2) (fieldN b 12 8)),rT []];obtain ⟨id,off,rfl,hid,_,hB⟩:=hv2.sl h0;have hBl:(B4 b).length=256:=by rw [B5,hD.cons.1]
 have l2:=hB 0 256 (by rw [F0 hD];omega);have ec:((C8 (b::E)).drop 0).take 256=B4 b:=by
  have:=kE (i:=0) hD h0
  rwa [Nat.zero_mul] at this
 rw [ec,E0D] at l2;have a1:E5 256 (sV id off (b::E).length 256) (iV 0)=A4 (pV id off):=by
  have:=D8 (k:=.i64) (id:=id) (off:=off) (sz:=256) (j:=0) (len:=(b::E).length) h0
  rwa [Nat.zero_mul,E0D] at this
 have hG:=λh=>A5W (h:=h) hD.cons.1
 have c0:¬ (((b::E).length:Nat):Int)=0:=by omega
 have n13:¬ (13:Int)=0:=by decide
 simp only [ho,C9W ho,cond_true,hn2] at hG;have eN:yX (b::E)=fieldN b 10 2:=rfl;have eM:C57 (b::E)=fieldN b 12 8:=rfl;have hA:=D4K (id:=h.length+2) (by simp) hv3 (by omega) h60;have ef1:E7 ([]:List Cell) []=A4 []:=rfl;have T1:id<h.length:=by
  rcases hv with ⟨e,_⟩ | ⟨i,o,r,e,hr,_⟩
  ·cases e
  ·cases e;exact D7 hr
 rw [eN,eM];unfold IsView;generalize C8 (b::E)=C at *;have emk:A70 41 [pV (h.length+4) 0]=A4 (.c (.f 41 [(h.length+4,0)])):=rfl;refine ⟨.f 41 [(h.length+4,0)],[rT (vwC (b::E).length (fieldN b 10 2) (fieldN b 12 8) (.f 41 [(h.length+4,0)])),rT (J8 (b::E).length (fieldN b 10 2) (fieldN b 12 8)),A7,rT C,rT [.sl (h.length+3) 0 (b::E).length 256]],yV (n:=0) ?_,h.length+4,h.length+3,A5,A5,rfl,dW,dW⟩;rw [yK];generalize (b::E).length=N at *;generalize B4 b=y at *;generalize fieldN b 10 2=n1 at *;generalize fieldN b 12 8=n2 at *;have ef2:∀ x,E7 [o0,o0,.i .u64 0,.nf] [(0,3,.a [.i .i64 (N:Int),.i .i64 n1,.i .u64 n2]),(3,1,.c x)]=A4 [.i .i64 (N:Int),.i .i64 n1,.i .u64 n2,x]:=λ_=>rfl
 unfold J8 vwC at *;simp only [esc,esh,Nat.reduceAdd] at hA;simp only [esc,esh,Nat.reduceAdd,Nat.reduceLT,l2,a1,hG,eq_self,c0,hA,ef1,ef2,emk]<;>rfl
section
variable (n m m2:Nat) (a0 a1:Val) (h:A9)
def pD:FD A8:=⟨px 0X118f20306191889011b1a71b701104261700523201042,[],[],[.tmp 2],[]⟩
def A0k:=pD.R
def B2E:=mR A0k pD (tT []) n [a0] h
def A62:=pD.K Tryz.func198
def A0w:=pD.S
def A9Z:G3 A0k A0w:=A62.flat
def yG:FD A8:=⟨px 0X11bf401906313019622811c488181c50201140160000722403f010318131f4203140422e253182,[],[],[.tmp 4],[E1 A0w A62,E1 vB A3n]⟩
def A4X:=yG.R
def B73:=mR A4X yG (tT []) n [a0,a1] h
def A4B:=yG.K Tryz.func142
def yU:=yG.S
def B8j:SOk A8 142 yU:=A4B.sok
def B22:G3 A4X yU:=A4B.flat
end
def ptP (b:List UInt8) (i:Nat):Int:=fieldN b (2*i) 2
def B8w {k:Nat} {h:A9} (hk:k<128):A0w [iV k] h=A4 (bV A5,h):=by
 have key:∀ g,∃ g',A0k 0 [iV k] g=A4 (bV A5,g'):=by
  intro g;have c1:(0:Int)<=k:=by omega
  have c2:(k:Int)<128:=by omega
  rw [B2E];exact ⟨_,by simp only [esc,c1,c2]<;>rfl⟩
 obtain ⟨g',e⟩:=key (ro h);exact A9Z e rfl
def D7F {b:List UInt8} {i:Nat} (hb:b.length=256) (hi:i<128):((atN b ((2*i:Nat):Int) 2:Nat):Int)=ptP b i:=by
 unfold atN ptP fieldN;rw [if_pos ⟨by omega,S7.2 (by omega)⟩];simp only [D9N];rfl
def D4u {i:Nat} (hi:i<128):D9B .i64 (2*(i:Int))=((2*i:Nat):Int):=by rw [wrap_i64 (by omega) (by omega)];omega
def B0V {b:List UInt8} {k:Nat} {h:A9} (hb:b.length=256) (hk:k<128):yU [.a (B4 b),iV k] h=A4 (iV (ptP b k),h):=by
 have key:∀ g,∃ g',A4X 0 [.a (B4 b),iV k] g=A4 (iV (ptP b k),g'):=by
  intro g;have hB:(B4 b).length=256:=by rw [B5,hb]
  have hT:=λh=>B8w (h:=h) hk
  have hA:=λh=>kU (h:=h) hb (a:=((2*k:Nat):Int)) (w:=2)
  rw [D7F hb hk] at hA;rw [B73];exact ⟨_,by simp only [esc,esh,hB,hT,D4u hk,hA]<;>rfl⟩
 obtain ⟨g',e⟩:=key (ro h);exact B22 e rfl
def zI (n:Nat):List Int:=D9w n 0
def K4 {n:Nat}:(zI n).length=n:=by simp [zI]
abbrev D4 (k l s p:Int) (d:List Int):List Cell:=.i .i64 k::.i .i64 l::.i .i64 s::.i .i64 p::encI d
def Q6 (n:Int):Bool:=decide (0<=n)&&decide (n<=65535)
def A16 {n:Int}:Q6 n=A5↔0<=n/\n<=65535:=by unfold Q6;simp
def U5 {n:Int} {h:A9}:A2M [iV n] h=A4 (bV (Q6 n),h):=by
 refine B1t (n:=0) (h2:=ro h) ?_ rfl;rw [B4Y];unfold Q6;by_cases c:0<=n
 ·simp only [esc,c,D9R]
 ·simp only [esc,c,D9L]
def B8s {n:Int} {h:A9}:A0v [iV n] h=A4 (iV (if n<1 then 0 else if 34304<n then 134 else (n+255)/256),h):=by
 refine A9Y (n:=0) (h2:=ro h) ?_ rfl;rw [B2C];by_cases c1:n<1
 ·rw [if_pos c1];simp only [esc,c1]
 ·rw [if_neg c1];by_cases c2:34304<n
  ·rw [if_pos c2];simp only [esc,c1,c2]
  ·rw [if_neg c2];have e1:D9B .i64 (n+256)=n+256:=wrap_i64 (by omega) (by omega);have e2:D9B .i64 (n+256-1)=n+255:=by rw [wrap_i64 (by omega) (by omega)];omega
   simp only [esc,c1,c2,e1,e2,A5M (a:=n+255) (b:=256) (by omega) (by omega) (by omega)]
def B4b {g:A9} {k l s p:Int} {d:List Int} {z:List Cell} {q:Nat} (hd:d.length=7) (hz:z.length=7):∀ e i m:Nat,i+e=6->e<m ->
  A37 q m (pV g.length 0) (pV (g.length+1) 0) (pV (g.length+2) 0) (.a (encI (d.take 6))) (iV i) (g++[rT (D4 k l s p d),rT z,rT (encI (d.take i++zI (7-i)))]) =
   A4 (.a (encI d),g++[rT (D4 k l s p d),rT (encI d),rT (encI d)])
 | e,i,0,_,hm=>by omega
 | 0,i,m+1,hi,hm=>by
  have e0:i=6:=by omega
  subst e0;have h1':¬ ((6:Nat):Int)<6:=by omega
  have l1:(D4 k l s p d)[10]?=A4 (.i .i64 d[6]):=by
   have:(encI d)[6]?=A4 (.i .i64 d[6]):=by rw [H0,D9u (by omega)];rfl
   exact this
  have a1:I5 7 1 (pV (g.length+2) 0) (iV 6)=A4 (pV (g.length+2) 6):=rfl;have ho:6<(encI (d.take 6++zI (7-6))).length:=by rw [C1,D9A,K4,D91];omega
  have es:(encI (d.take 6++zI (7-6))).set 6 (.i .i64 d[6])=encI d:=by
   rw [qY]
   congr 1
   have h6:(d.take 6).length=6:=by simp;omega
   rw [D96 _ _ (by omega),h6];have:d=d.take 6++[d[6]]:=by
    rw [<-D9V (by omega),D9M (by omega)]
   conv=>rhs;rw [this]
   rfl
  have hl:(encI d).length=7:=by rw [C1,hd]
  rw [xP];simp only [esc,esh,h1',l1,a1,ho,es,hl,hz]
 | e+1,i,m+1,hi,hm=>by
  have ih:=B4b (g:=g) (k:=k) (l:=l) (s:=s) (p:=p) (q:=q) hd hz e (i+1) m (by omega) (by omega);have h1':(i:Int)<6:=by omega
  have hx:A2U 6 (.a (encI (d.take 6))) (iV (i:Int))=A4 (iV d[i]):=by
   rw [B3D (by omega),H0,D97 (by omega),D9u (by omega)];rfl
  have a1:I5 7 1 (pV (g.length+2) 0) (iV (i:Int))=A4 (pV (g.length+2) i):=by rw [K3 (by omega)];simp
  have ho:i<(encI (d.take i++zI (7-i))).length:=by rw [C1,D9A,K4,D91];omega
  have es:(encI (d.take i++zI (7-i))).set i (.i .i64 d[i])=encI (d.take (i+1)++zI (7-(i+1))):=by
   rw [qY];refine congrArg encI ?_;have h6:(d.take i).length=i:=by simp;omega
   rw [D96 _ _ (by omega),h6,E0p,D9V (by omega),D9C];refine congrArg (d.take i ++ ·) ?_;rw [show 7-i=7-(i+1)+1 by omega];unfold zI;rw [D92,E0w];rfl
  rw [xP];simp only [esc,esh,h1',hx,a1,ho,es,D9 (show i+1<9223372036854775808 by omega)];exact ih
def D5f {k l s p:Int} {d:List Int} (hd:d.length=7):ldN (rT (D4 k l s p d)) 4 6=A4 (.a (encI (d.take 6))):=by
 have h1:(D4 k l s p d).length=11:=by simp [C1,hd]
 simp only [ldN,D9H];rw [if_pos ⟨by omega,by simp⟩];simp only [List.drop_succ_cons,D9O];unfold encI;rw [List.map_take]
def kM {k l s p:Int} {d:List Int} {h:A9} (hd:d.length=7):aX [.a (D4 k l s p d)] h=A4 (.a (encI d),h):=by
 have key:∀ N,7<N->∀ g,∃ g',wN N [.a (D4 k l s p d)] g=A4 (.a (encI d),g'):=by
  intro N hN g;have:=B4b (g:=g) (k:=k) (l:=l) (s:=s) (p:=p) (z:=encI (zI 7)) (q:=N) hd (by rw [C1,K4]) 6 0 N (by omega) (by omega);have e0:encI (d.take 0++zI (7-0))=[o0,o0,o0,o0,o0,o0,o0]:=rfl;have e1:encI (zI 7)=[o0,o0,o0,o0,o0,o0,o0]:=rfl;rw [e0,e1] at this;rw [B09];exact ⟨_,by simp only [esc,esh,Nat.reduceAdd,D5f hd];exact this⟩
 obtain ⟨g',e⟩:=key (h.length+8) (by omega) (ro h);exact A7L e (by simp)
def C3Z (l s p:Int) (d:List Int):Bool:=decide (l=0/\s=0/\p=0/\d=zI 7)
def B4n (k l s p:Int) (d:List Int):Bool:=decide (0<=k/\k<=2)&&(Q6 l&&(Q6 p&&(decide (0<=s/\s<=34304)&&d.all Q6)))
def A0Y (k l s p:Int) (d:List Int):Bool:=if k=0 then C3Z l s p d else B4n k l s p d
def B67 {h:A9} {d:List Int} {q:Nat} (hd:d.length=7):∀ e i m:Nat,i+e=7->e<m ->
  A8M q m (.a (encI d)) (iV i) h=A4 (iV (bif (d.drop i).all Q6 then 0 else 1),h)
 | e,i,0,_,hm=>by omega
 | 0,i,m+1,hi,hm=>by
  have c0:¬ (i:Int)<7:=by omega
  rw [A12,D9K (by omega)];simp only [esc,c0,List.all_nil]
 | e+1,i,m+1,hi,hm=>by
  have ih:=B67 (h:=h) (q:=q) hd e (i+1) m (by omega) (by omega);have c0:(i:Int)<7:=by omega
  have hx:A2U 7 (.a (encI d)) (iV (i:Int))=A4 (iV d[i]):=by
   rw [B3D (by omega),H0,D9u (by omega)];rfl
  rw [A12,D9E (by omega),E0j];cases c1:Q6 d[i] with
  | true =>
   simp only [esc,c0,hx,U5,c1,D9R,D9 (show i+1<9223372036854775808 by omega)];exact ih
  | false=>simp only [esc,c0,hx,U5,c1,D9L]
def D4C {k l s p k' l' s' p':Int} {d d':List Int} {neg:Bool} (hd:d.length=7) (hd':d'.length=7) :
  aeq neg [Sh.i .i64,.i .i64,.i .i64,.i .i64,.i .i64,.i .i64,.i .i64,.i .i64,.i .i64,.i .i64,.i .i64] (.a (D4 k l s p d)) (.a (D4 k' l' s' p' d'))=A4 (bV (bif neg then !decide (k::l::s::p::d=k'::l'::s'::p'::d') else decide (k::l::s::p::d=k'::l'::s'::p'::d'))):=by
 have h1:=D2d (l:=k::l::s::p::d) (m:=k'::l'::s'::p'::d') (n:=11) (by simp [hd]) (by simp [hd']);have h2:=C7V (l:=k::l::s::p::d) (m:=k'::l'::s'::p'::d') (n:=11) (by simp [hd]) (by simp [hd']);cases neg
 ·exact h2
 ·exact h1
def D4w {l s p:Int} {d:List Int}:decide ((0:Int)::l::s::p::d=0::0::0::0::zI 7)=C3Z l s p d:=by
 unfold C3Z;simp
def B5D:E7 [o0,o0,o0,o0,o0,o0,o0,o0,o0,o0,o0] []=A4 (D4 0 0 0 0 (zI 7)):=rfl
def A8L {k l s p:Int} {d:List Int} {h:A9} (hd:d.length=7):A2K [.a (D4 k l s p d)] h=A4 (iV (bif A0Y k l s p d then 0 else 1),h):=by
 have hlen:(D4 k l s p d).length=11:=by simp [C1,hd]
 have key:∀ N,8<N->∀ g,∃ g',A2v N [.a (D4 k l s p d)] g=A4 (iV (bif A0Y k l s p d then 0 else 1),g'):=by
  intro N hN g;have lp:=λg=>B67 (h:=g) (q:=N) hd 7 0 N (by omega) (by omega)
  simp only [D9O,E0r] at lp;rw [B4W];unfold A0Y;by_cases k0:k=0
  ·subst k0;rw [if_pos rfl];have c1:¬ (0:Int)<0:=by omega
   have c2:¬ (2:Int)<0:=by omega
   have hq:=D4C (k:=0) (l:=l) (s:=s) (p:=p) (k':=0) (l':=0) (s':=0) (p':=0) (neg:=A5) hd (K4 (n:=7));simp only [cond_true,D4w] at hq;cases hz:C3Z l s p d with
   | false =>
    rw [hz] at hq;exact ⟨_,by simp only [esc,esh,c1,c2,hlen,B5D,hq]<;>rfl⟩
   | true =>
    rw [hz] at hq;have hz':=of_decide_eq_true hz;obtain ⟨rfl,rfl,rfl,rfl⟩:=hz';have sm:Q6 0=A5:=by decide
    have al:(zI 7).all Q6=A5:=by decide
    have c3:¬ (34304:Int)<0:=by omega
    rw [al] at lp;exact ⟨_,by simp only [esc,esh,c1,c2,c3,hlen,B5D,hq,U5,sm,kM hd,lp]<;>rfl⟩
  ·rw [if_neg k0];unfold B4n;by_cases c1:k<0
   ·rw [decide_eq_false (show ¬ (0<=k/\k<=2) by omega)];exact ⟨_,by simp only [esc,esh,c1,D9L]<;>rfl⟩
   ·by_cases c2:2<k
    ·rw [decide_eq_false (show ¬ (0<=k/\k<=2) by omega)];exact ⟨_,by simp only [esc,esh,c1,c2,D9L]<;>rfl⟩
    ·rw [decide_eq_true (show 0<=k/\k<=2 by omega),D9R];cases sl:Q6 l with
     | false=>exact ⟨_,by simp only [esc,esh,c1,c2,k0,U5,sl,D9L]<;>rfl⟩
     | true =>
      cases sp:Q6 p with
      | false=>exact ⟨_,by simp only [esc,esh,c1,c2,k0,U5,sl,sp,D9R,D9L]<;>rfl⟩
      | true =>
       by_cases c3:s<0
       ·rw [decide_eq_false (show ¬ (0<=s/\s<=34304) by omega)];exact ⟨_,by simp only [esc,esh,c1,c2,k0,U5,sl,sp,c3,D9R,D9L]<;>rfl⟩
       ·by_cases c4:34304<s
        ·rw [decide_eq_false (show ¬ (0<=s/\s<=34304) by omega)];exact ⟨_,by simp only [esc,esh,c1,c2,k0,U5,sl,sp,c3,c4,D9R,D9L]<;>rfl⟩
        ·rw [decide_eq_true (show 0<=s/\s<=34304 by omega)];exact ⟨_,by simp only [esc,esh,c1,c2,k0,U5,sl,sp,c3,c4,D9R,hlen,kM hd,lp]<;>rfl⟩
 obtain ⟨g',e⟩:=key (h.length+9) (by omega) (ro h);exact B1r e rfl
def A1d (k l s p:Int):List UInt8:=C6 1 k++zeros 1++C6 2 l++C6 4 s++C6 2 p
def mP (d:List Int):List UInt8:=(d.map (C6 2)).flatten
def Z6 (k l s p:Int) (d:List Int):List UInt8:=A1d k l s p++mP d++zeros 8
def jD {k l s p:Int}:(A1d k l s p).length=10:=by simp [A1d]
def oN {d:List Int}:(mP d).length=2*d.length:=by
 unfold mP
 induction d with
 | nil=>rfl
 | cons x d ih=>simp only [E0d,E0l,D9A,N0,D9G,ih];omega
def vR {k l s p:Int} {d:List Int} (hd:d.length=7):(Z6 k l s p d).length=32:=by
 unfold Z6;rw [D9A,D9A,jD,oN,zeros_length,hd]
def D04 {d:List Int} {x:Int}:mP (d++[x])=mP d++C6 2 x:=by simp [mP]
def D06 {k l s p:Int}:fF (fF (fF (fF (zeros 256) 0 1 k) 2 2 l) 4 4 s) 8 2 p=M8 256 (A1d k l s p):=by
 rw [<-D3Q];have h1:=fQ (l:=[]) (a:=0) (w:=1) (v:=k) (by simp) (by omega) (by omega) (by omega);have h2:=fQ (l:=[]++zeros (0-0)++C6 1 k) (a:=2) (w:=2) (v:=l) (by simp) (by omega) (by omega) (by omega);have h3:=fQ (l:=[]++zeros (0-0)++C6 1 k++zeros 1++C6 2 l) (a:=4) (w:=4) (v:=s) (by simp) (by omega) (by omega) (by omega);have h4:=fQ (l:=[]++zeros (0-0)++C6 1 k++zeros 1++C6 2 l++zeros 0++C6 4 s) (a:=8) (w:=2) (v:=p) (by simp) (by omega) (by omega) (by omega);simp only [D9A,D95,zeros_length,N0,E0p,Nat.reduceAdd,Nat.reduceSub] at h1 h2 h3 h4;simp only [E0r] at h1 h2 h3 h4;rw [h1,h2,h3,h4]
 congr 1
def C7c {g:A9} {c0:List Cell} {B:List UInt8} {z:List Cell} {q:Nat} (hB:B.length=256) (hz:z.length=32):∀ e i m:Nat,i+e=32->e<m ->
  B3P q m (pV (g.length+1) 0) (pV (g.length+2) 0) (pV (g.length+3) 0) (iV i) (g++[rT c0,rT z,rT (B4 (B.take i++zeros (32-i))),rT (B4 B)]) =
   A4 (.t [.a (B4 (B.take 32)),.c o0],g++[rT c0,rT (B4 (B.take 32)),rT (B4 (B.take 32)),rT (B4 B)])
 | e,i,0,_,hm=>by omega
 | 0,i,m+1,hi,hm=>by
  have e0:i=32:=by omega
  subst e0;have h1':¬ ((32:Nat):Int)<32:=by omega
  have hl:(B4 (B.take 32)).length=32:=by rw [B5,D91];omega
  have e1:B4 (B.take 32++zeros (32-32))=B4 (B.take 32):=by simp [zeros]
  rw [A6p,e1];simp only [esc,esh,h1',hl,hz]
 | e+1,i,m+1,hi,hm=>by
  have ih:=C7c (g:=g) (c0:=c0) (q:=q) hB hz e (i+1) m (by omega) (by omega);have h1':(i:Int)<32:=by omega
  have a1:I5 256 1 (pV (g.length+3) 0) (iV (i:Int))=A4 (pV (g.length+3) i):=by rw [K3 (by omega)];simp
  have a2:I5 32 1 (pV (g.length+2) 0) (iV (i:Int))=A4 (pV (g.length+2) i):=by rw [K3 (by omega)];simp
  have l1:(B4 B)[i]?=A4 (.i .u8 B[i].toNat):=by rw [qX,D9u (by omega)];rfl
  have ho:i<(B4 (B.take i++zeros (32-i))).length:=by rw [B5,D9A,zeros_length,D91];omega
  have es:(B4 (B.take i++zeros (32-i))).set i (.i .u8 B[i].toNat)=B4 (B.take (i+1)++zeros (32-(i+1))):=by
   rw [iY];refine congrArg B4 ?_;have h6:(B.take i).length=i:=by simp;omega
   rw [D96 _ _ (by omega),h6,E0p,D9V (by omega),D9C];refine congrArg (B.take i ++ ·) ?_;rw [show 32-i=32-(i+1)+1 by omega];unfold zeros;rw [D92,E0w];rfl
  rw [A6p];simp only [esc,esh,h1',a1,a2,l1,ho,es,D9 (show i+1<9223372036854775808 by omega)];exact ih
def C7d {g:A9} {k l s p:Int} {d:List Int} {c0 z:List Cell} {q:Nat} (hd:d.length=7) (hz:z.length=32) (hq:33<q):∀ e i m:Nat,i+e=7->e<m ->
  B3O q m (pV (g.length+1) 0) (pV (g.length+2) 0) (pV (g.length+3) 0) (.a (encI d)) (iV i) (g++[rT c0,rT z,rT (B4 (zeros 32)),rT (B4 (M8 256 (A1d k l s p++mP (d.take i))))]) =
   A4 (.t [.a (B4 (Z6 k l s p d)),.c o0],g++[rT c0,rT (B4 (Z6 k l s p d)),rT (B4 (Z6 k l s p d)),rT (B4 (M8 256 (A1d k l s p++mP d)))])
 | e,i,0,_,hm=>by omega
 | 0,i,m+1,hi,hm=>by
  have e0:i=7:=by omega
  subst e0;have h1':¬ ((7:Nat):Int)<7:=by omega
  rw [D9M (by omega)];have hlen:(A1d k l s p++mP d).length=24:=by rw [D9A,jD,oN,hd]
  have:=C7c (g:=g) (c0:=c0) (z:=z) (q:=q) (B:=M8 256 (A1d k l s p++mP d)) (G1 (by omega)) hz 32 0 q (by omega) (by omega);have e1:(M8 256 (A1d k l s p++mP d)).take 32=Z6 k l s p d:=by
   unfold M8 Z6;rw [List.take_append,D9M (by omega),hlen];refine congrArg (A1d k l s p++mP d ++ ·) ?_;unfold zeros;rw [List.take_replicate];rfl
  rw [e1] at this;simp only [E0z,D9U,Nat.sub_zero] at this;rw [A6o];simp only [esc,h1'];exact this
 | e+1,i,m+1,hi,hm=>by
  have ih:=C7d (g:=g) (k:=k) (l:=l) (s:=s) (p:=p) (c0:=c0) hd hz hq e (i+1) m (by omega) (by omega);have h1':(i:Int)<7:=by omega
  have hx:A2U 7 (.a (encI d)) (iV (i:Int))=A4 (iV d[i]):=by
   rw [B3D (by omega),H0,D9u (by omega)];rfl
  have hlen:(A1d k l s p++mP (d.take i)).length=10+2*i:=by rw [D9A,jD,oN,D91];omega
  have hL:(B4 (M8 256 (A1d k l s p++mP (d.take i)))).length=256:=by rw [B5,G1 (by omega)]
  have e2:D9B .i64 (2*(i:Int))=((2*i:Nat):Int):=by rw [wrap_i64 (by omega) (by omega)];omega
  have e3:D9B .i64 (10+((2*i:Nat):Int))=((10+2*i:Nat):Int):=by rw [wrap_i64 (by omega) (by omega)];omega
  have hw:=U8 (l:=M8 256 (A1d k l s p++mP (d.take i))) (h:=g++[rT c0,rT z,rT (B4 (zeros 32)),rT (B4 (M8 256 (A1d k l s p++mP (d.take i))))]) (G1 (by omega)) (a:=((10+2*i:Nat):Int)) (w:=2) (v:=d[i]);have e4:=fQ (l:=A1d k l s p++mP (d.take i)) (a:=10+2*i) (w:=2) (v:=d[i]) (by omega) (by omega) (by omega) (by omega);rw [show ((2:Nat):Int)=2 from rfl,hlen,E0p,show zeros 0=[] from rfl,D9Q,D9C,<-D04,<-D9V (by omega)] at e4;rw [e4] at hw;have hL':(B4 (M8 256 (A1d k l s p++mP (d.take (i+1))))).length=256:=by
   rw [B5,G1 (by rw [D9A,jD,oN,D91];omega)]
  rw [A6o];simp only [esc,esh,h1',hx,hL,e2,e3,hw,hL',D9 (show i+1<9223372036854775808 by omega)];exact ih
def B3N {k l s p:Int} {d:List Int} {h:A9} (hd:d.length=7) :
  A1D [.a (D4 k l s p d)] h=A4 (.t [.a (B4 (bif A0Y k l s p d then Z6 k l s p d else zeros 32)),.c (.i .i64 (bif A0Y k l s p d then 0 else 1))],h):=by
 have hlen:(D4 k l s p d).length=11:=by simp [C1,hd]
 have key:∀ N,33<N->∀ g,∃ g',A7j N [.a (D4 k l s p d)] g=A4 (.t [.a (B4 (bif A0Y k l s p d then Z6 k l s p d else zeros 32)),.c (.i .i64 (bif A0Y k l s p d then 0 else 1))],g'):=by
  intro N hN g;have hz:(B4 (zeros 32)).length=32:=by rw [B5];exact zeros_length
  have hz2:(B4 (zeros 256)).length=256:=by rw [B5];exact zeros_length
  rw [B86,F7,F7];cases c:A0Y k l s p d with
  | false =>
   generalize zeros 32=z at *;generalize zeros 256=y at *;exact ⟨_,by simp only [esc,esh,Nat.reduceAdd,hlen,A8L hd,c,hz,Int.reduceEq]<;>rfl⟩
  | true =>
   have:=C7d (g:=g) (k:=k) (l:=l) (s:=s) (p:=p) (c0:=D4 k l s p d) (z:=B4 (zeros 32)) (q:=N) hd hz hN 7 0 N (by omega) (by omega);simp only [E0z,show mP []=[] from rfl,D9Q] at this;have w1:=λh=>U8 (h:=h) (l:=zeros 256) zeros_length (a:=0) (w:=1) (v:=k)
   have w2:=λh=>U8 (h:=h) (l:=fF (zeros 256) 0 1 k) (Q9 zeros_length) (a:=2) (w:=2) (v:=l)
   have w3:=λh=>U8 (h:=h) (l:=fF (fF (zeros 256) 0 1 k) 2 2 l) (Q9 (Q9 zeros_length)) (a:=4) (w:=4) (v:=s)
   have w4:=λh=>U8 (h:=h) (l:=fF (fF (fF (zeros 256) 0 1 k) 2 2 l) 4 4 s) (Q9 (Q9 (Q9 zeros_length))) (a:=8) (w:=2) (v:=p)
   have l1:(B4 (fF (zeros 256) 0 1 k)).length=256:=by rw [B5,Q9 zeros_length]
   have l2:(B4 (fF (fF (zeros 256) 0 1 k) 2 2 l)).length=256:=by rw [B5,Q9 (Q9 zeros_length)]
   have l3:(B4 (fF (fF (fF (zeros 256) 0 1 k) 2 2 l) 4 4 s)).length=256:=by rw [B5,Q9 (Q9 (Q9 zeros_length))]
   have l4:(B4 (M8 256 (A1d k l s p))).length=256:=by rw [B5,G1 (by rw [jD];omega)]
   simp only [D06] at w4;generalize zeros 32=z at *;generalize zeros 256=y at *;exact ⟨_,by simp only [esc,esh,Nat.reduceAdd,hlen,A8L hd,c,hz,hz2,w1,w2,w3,w4,l1,l2,l3,l4,kM hd];exact this⟩
 obtain ⟨g',e⟩:=key (h.length+34) (by omega) (ro h);exact B5k e (by simp)
def A6M (b:List UInt8):Int:=fieldN b 0 1
def A8z (b:List UInt8):Int:=fieldN b 2 2
def A8B (b:List UInt8):Int:=fieldN b 4 4
def A8A (b:List UInt8):Int:=fieldN b 8 2
def W6 (b:List UInt8):List Int:=(D90 7).map λj=>fieldN b (10+2*j) 2
def I9 {b:List UInt8}:(W6 b).length=7:=by simp [W6]
def B5Y {b:List UInt8} {i:Nat} (hi:i<7):(W6 b)[i]?=A4 (fieldN b (10+2*i) 2):=by simp [W6,hi]
def C6D {k l s p x:Int} {d:List Int} {i:Nat}:(D4 k l s p d).set (4+i) (.i .i64 x)=D4 k l s p (d.set i x):=by
 rw [show 4+i=i+1+1+1+1 by omega];simp only [D4,List.set_cons_succ,qY]
def B4w {D:List Int} (hD:D.length=7) {i:Nat} (hi:i<7):(D.take i++zI (7-i)).set i D[i]=D.take (i+1)++zI (7-(i+1)):=by
 have h6:(D.take i).length=i:=by simp;omega
 rw [D96 _ _ (by omega),h6,E0p,D9V (by omega),D9C];refine congrArg (D.take i ++ ·) ?_;rw [show 7-i=7-(i+1)+1 by omega];unfold zI;rw [D92,E0w];rfl
def C3h {g:A9} {b:List UInt8} {k l s p:Int} {c0 z:List Cell} {q:Nat} (hb:b.length=32) (hz:z.length=11):∀ e i m:Nat,i+e=6->e<m ->
  B3M q m (pV (g.length+1) 0) (pV (g.length+2) 0) (pV (g.length+3) 0) (iV i) (g++[rT c0,rT z,rT (B4 (M8 256 b)),rT (D4 k l s p ((W6 b).take i++zI (7-i)))]) =
   A4 (.a (D4 k l s p (W6 b)),g++[rT c0,rT (D4 k l s p (W6 b)),rT (B4 (M8 256 b)),rT (D4 k l s p (W6 b))])
 | e,i,0,_,hm=>by omega
 | 0,i,m+1,hi,hm=>by
  have e0:i=6:=by omega
  subst e0;have h1':¬ ((6:Nat):Int)<6:=by omega
  have hX:(B4 (M8 256 b)).length=256:=by rw [B5,G1 (by omega)]
  have ha:=λh=>kU (h:=h) (l:=M8 256 b) (G1 (by omega)) (a:=22) (w:=2)
  have e1:=C71 (b:=b) (a:=22) (w:=2) (by omega) (by omega) (by omega) (by omega);simp only [E0r] at e1;simp only [e1] at ha;have ho:(encI ((W6 b).take 6++zI (7-6))).length=7:=by simp [C1,I9,K4]
  have hg6:(W6 b)[6]'(by rw [I9];omega)=fieldN b 22 2:=by
   have:=B5Y (b:=b) (i:=6) (by omega);rw [D9u (by rw [I9];omega)] at this;exact Option.some.inj this
  have es:(D4 k l s p ((W6 b).take 6++zI (7-6))).set 10 (.i .i64 (fieldN b 22 2))=D4 k l s p (W6 b):=by
   have h1:=C6D (k:=k) (l:=l) (s:=s) (p:=p) (x:=fieldN b 22 2) (d:=(W6 b).take 6++zI (7-6)) (i:=6);rw [show 4+6=10 from rfl] at h1;rw [h1,<-hg6,B4w I9 (by omega)];have:(W6 b).take (6+1)++zI (7-(6+1))=W6 b:=by rw [D9M (by rw [I9];omega)];simp [zI]
   rw [this]
  have hl1:(D4 k l s p (W6 b)).length=11:=by simp [C1,I9]
  rw [A6n];simp only [esc,esh,Nat.reduceAdd,Nat.reduceLT,h1',hX,ha,ho,es,hl1,hz]
 | e+1,i,m+1,hi,hm=>by
  have ih:=C3h (g:=g) (k:=k) (l:=l) (s:=s) (p:=p) (c0:=c0) (q:=q) hb hz e (i+1) m (by omega) (by omega);have h1':(i:Int)<6:=by omega
  have hX:(B4 (M8 256 b)).length=256:=by rw [B5,G1 (by omega)]
  have e2:D9B .i64 (2*(i:Int))=((2*i:Nat):Int):=by rw [wrap_i64 (by omega) (by omega)];omega
  have e3:D9B .i64 (10+((2*i:Nat):Int))=((10+2*i:Nat):Int):=by rw [wrap_i64 (by omega) (by omega)];omega
  have ha:=λh=>kU (h:=h) (l:=M8 256 b) (G1 (by omega)) (a:=((10+2*i:Nat):Int)) (w:=2)
  have e1:=C71 (b:=b) (a:=10+2*i) (w:=2) (by omega) (by omega) (by omega) (by omega);rw [show ((2:Nat):Int)=2 from rfl] at e1;simp only [e1] at ha;have a1:I5 6 1 (pV (g.length+3) 4) (iV (i:Int))=A4 (pV (g.length+3) (4+i)):=by rw [K3 (by omega)];simp
  have ho:(encI ((W6 b).take i++zI (7-i))).length=7:=by simp [C1,I9,K4];omega
  have ho2:4+i<11:=by omega
  have hgi:(W6 b)[i]'(by rw [I9];omega)=fieldN b (10+2*i) 2:=by
   have:=B5Y (b:=b) (i:=i) (by omega);rw [D9u (by rw [I9];omega)] at this;exact Option.some.inj this
  have es:(D4 k l s p ((W6 b).take i++zI (7-i))).set (4+i) (.i .i64 (fieldN b (10+2*i) 2))=D4 k l s p ((W6 b).take (i+1)++zI (7-(i+1))):=by
   rw [C6D,<-hgi,B4w I9 (by omega)]
  rw [A6n];simp only [esc,esh,Nat.reduceAdd,h1',hX,e2,e3,ha,a1,ho,ho2,es,D9 (show i+1<9223372036854775808 by omega)];exact ih
def A5C {b:List UInt8} {h:A9} (hb:b.length=32):A7K [.a (B4 b)] h=A4 (.a (D4 (A6M b) (A8z b) (A8B b) (A8A b) (W6 b)),h):=by
 have key:∀ N,7<N->∀ g,∃ g',A7i N [.a (B4 b)] g=A4 (.a (D4 (A6M b) (A8z b) (A8B b) (A8A b) (W6 b)),g'):=by
  intro N hN g;have hl:(B4 b).length=32:=by rw [B5,hb]
  have hX:(B4 (M8 256 b)).length=256:=by rw [B5,G1 (by omega)]
  have hz:(D9w 256 (Cell.i .u8 0)).length=256:=D9X;have z11:[o0,o0,o0,o0,o0,o0,o0,o0,o0,o0,o0]=D4 0 0 0 0 (zI 7):=rfl;have l11:(D4 0 0 0 0 (zI 7)).length=11:=rfl;have ho:=A9D (h:=g++[rT (B4 b),rT (D4 0 0 0 0 (zI 7))]) (v:=sV g.length 0 32 1) (nv:=32) (data:=b) (Has.tr (by simp) (by omega) (R7 _)) (by omega);rw [C42 (by omega)] at ho;have at_:∀ (a w:Nat),a+w<=32->1<=w->w<=4->∀ h,vB [.a (B4 (M8 256 b)),iV a,iV w] h=A4 (iV (fieldN b a w),h):=λa w h1 h2 h3 h=>by
   rw [kU (G1 (by omega)),C71 (by omega) (by omega) h2 h3]
  have a1:=at_ 0 1 (by omega) (by omega) (by omega);have a2:=at_ 2 2 (by omega) (by omega) (by omega);have a3:=at_ 4 4 (by omega) (by omega) (by omega);have a4:=at_ 8 2 (by omega) (by omega) (by omega);simp only [E0r] at a1 a2 a3 a4;have ef:E7 (D4 0 0 0 0 (zI 7)) [(0,1,iV (fieldN b 0 1)),(1,1,iV (fieldN b 2 2)),(2,1,iV (fieldN b 4 4)),(3,1,iV (fieldN b 8 2))]=A4 (D4 (A6M b) (A8z b) (A8B b) (A8A b) (zI 7)):=rfl;have lf:(D4 (A6M b) (A8z b) (A8B b) (A8A b) (zI 7)).length=11:=rfl;have:=C3h (g:=g) (b:=b) (k:=A6M b) (l:=A8z b) (s:=A8B b) (p:=A8A b) (c0:=B4 b) (z:=D4 0 0 0 0 (zI 7)) (q:=N) hb l11 6 0 N (by omega) (by omega);simp only [E0z,D9U,Nat.sub_zero] at this;rw [B85,z11];generalize D9w 256 (Cell.i .u8 0)=z at *;generalize D4 0 0 0 0 (zI 7)=y at *;exact ⟨_,by simp only [esc,esh,Nat.reduceAdd,hl,ho,hz,hX,a1,a2,a3,a4,ef,l11,lf];exact this⟩
 obtain ⟨g',e⟩:=key (h.length+8) (by omega) (ro h);exact B5j e (by simp)
def gA (b:List UInt8):Bool:=A0Y (A6M b) (A8z b) (A8B b) (A8A b) (W6 b)&&decide (Z6 (A6M b) (A8z b) (A8B b) (A8A b) (W6 b)=b)
def lO (b:List UInt8):List Cell:=bif gA b then D4 (A6M b) (A8z b) (A8B b) (A8A b) (W6 b) else D4 0 0 0 0 (zI 7)
def B0z {b:List UInt8}:(lO b).length=11:=by
 unfold lO;cases gA b<;>simp [C1,I9,K4]
def B3x {b:List UInt8}:K1 (lO b)=A5:=by
 unfold lO;cases gA b<;>simp
def C0E {b:List UInt8} {h:A9} (hb:b.length=32):A2L [.a (B4 b)] h=A4 (.t [.a (lO b),.c (.b (gA b))],h):=by
 have key:∀ g,∃ g',A2w 0 [.a (B4 b)] g=A4 (.t [.a (lO b),.c (.b (gA b))],g'):=by
  intro g;have hl:(B4 b).length=32:=by rw [B5,hb]
  have hI:(D4 (A6M b) (A8z b) (A8B b) (A8A b) (W6 b)).length=11:=by simp [C1,I9]
  have z11:[o0,o0,o0,o0,o0,o0,o0,o0,o0,o0,o0]=D4 0 0 0 0 (zI 7):=rfl;have l11:(D4 0 0 0 0 (zI 7)).length=11:=rfl;have af:=B5D;rw [z11] at af;have hz:(D9w 32 (Cell.i .u8 0)).length=32:=D9X;have hp:=λh=>B3N (h:=h) (k:=A6M b) (l:=A8z b) (s:=A8B b) (p:=A8A b) (d:=W6 b) I9
  have hB:(B4 (Z6 (A6M b) (A8z b) (A8B b) (A8A b) (W6 b))).length=32:=by rw [B5,vR I9]
  have hZ:(B4 (zeros 32)).length=32:=by rw [B5];exact zeros_length
  have hq:=C5y (l:=Z6 (A6M b) (A8z b) (A8B b) (A8A b) (W6 b)) (m:=b) (n:=32) (vR I9) hb;rw [B4X,z11];unfold lO gA;generalize D9w 32 (Cell.i .u8 0)=z at *;generalize D4 0 0 0 0 (zI 7)=y at *;cases c:A0Y (A6M b) (A8z b) (A8B b) (A8A b) (W6 b) with
  | false =>
   simp only [c,cond_false] at hp;exact ⟨_,by simp only [esc,esh,Nat.reduceAdd,hl,A5C hb,hI,l11,hp,hz,hZ,Int.reduceEq,af,D9L]<;>rfl⟩
  | true =>
   simp only [c,cond_true] at hp;cases c2:decide (Z6 (A6M b) (A8z b) (A8B b) (A8A b) (W6 b)=b) with
   | false =>
    rw [c2] at hq;exact ⟨_,by simp only [esc,esh,Nat.reduceAdd,hl,A5C hb,hI,l11,hp,hz,hB,hq,af,Bool.and_false]<;>rfl⟩
   | true =>
    rw [c2] at hq;exact ⟨_,by simp only [esc,esh,Nat.reduceAdd,hl,A5C hb,hI,l11,hp,hz,hB,hq,Bool.and_true]<;>rfl⟩
 obtain ⟨g',e⟩:=key (ro h);exact B1s e (by simp [B3x])
section
variable (n m m2:Nat) (a0 a1 a2 x1 x2 x3 x4 x5 x6 x7 x8 x9 x10 x11 x12 x15 x16 x17 x20 x21:Val) (h:A9)
def uD:FD A8:=⟨px 0X16f2013803804045500521103a2342,[],[.min (.t 4) (.v (.c (.i .i64 5))),.max (.v (.c o0)) (.t 5)],[.tmp 2],[]⟩
def A2s:=uD.R
def B4T:=mR A2s uD (tT []) n [a0] h
def bR:=uD.K Tryz.func168
def X3:=uD.S
def B1o:G3 A2s X3:=bR.flat
def yE:FD A8:=⟨px 0X118f20306197ffffd0191b1a71b701104261700523201042,[],[],[.tmp 2],[]⟩
def B2B:=yE.R
def B7X:=mR B2B yE (tT []) n [a0] h
def A4z:=yE.K Tryz.func169
def yQ:=yE.S
def B2W:G3 B2B yQ:=A4z.flat
def nU:FD A8:=⟨px 0X113022f48864f4884c1c3024bf2d053c0221827c488601941a4236e1028902019626a16a4883d1c7180153026c488601c3b371111113722403f01334e39036f420338f12ff50618487a414484a18215030702441328901215d4200605110481814c2b2b35b591820132af2488611c145a052964230403e501130785b134b123b112b104194101d18d721919411930153022c488601c3b371062240632101032849180401c72b40192f4303111c4c03a353182,[.c (.i .u8 105),.c (.i .u8 100),.c (.i .u8 120),.c (.i .u8 33)],[],[.cellN 2 256,.tmp 3],[E1 X3 bR,E1 A3D A60,E1 nH A0b,E1 yQ A4z]⟩
def A7g:=nU.R
def B3L:AtH:=nU.lj 0 n [m] [x2,x4,x20,x21]
def B6M:=tT [⟨2,4,B3L⟩]
def B84:=mR A7g nU B6M n [a0] h
def A6m:=mL nU B6M 0 n [m] [x2,x4,x20,x21] h
def A6V:=nU.K Tryz.func103
def A1C:=nU.S
def B9t:SOk A8 103 A1C:=A6V.sok
def B5i:G3 A7g A1C:=A6V.flat
def yF:FD A8:=⟨px 0X16f20051b2058010344918500521103a2342,[],[],[.tmp 2],[E1 X3 bR]⟩
def A4T:=yF.R
def B7Y:=mR A4T yF (tT []) n [a0] h
def dY:=yF.K Tryz.func163
def bH:=yF.S
def B2X:G3 A4T bH:=dY.flat
def dM:FD A8:=⟨px 0X113022f4964f49691c3025af180500218a59031801793022f49601f3b3711107224103204401482d14f518e5b051bf4235313270242890127e4f021a94203016254ef18001234f494d1c329421915301793022f49601f3b3711622401b181907e4e1f4887e3c6c4887e3c0110325c3d0718f422200333cf13bf248861c61b11828063b2c3af38001135a49391c181a1c331a22ff1c052e02218422a1e01482d14a519018303028902019623813e488182c1f019181ef50412284215030702441328901213b420060511c013942031bf24961f41b01011f3b529030328488191c51942111f4c03a353182,[],[.eqA A5 (D9w 256 (.i .u8)) (.t 32) (.t 33)],[.cellN 2 33,.tmp 3],[E1 vB A3n,E1 A1C A6V,E1 bH dY]⟩
def A7f:=dM.R
def B3I:AtH:=dM.lj 0 n [m] [x1,x2,x4,x12]
def B3J:AtH:=dM.lj 1 n [m] [x2,x4,x8]
def A7U:=tT [⟨2,4,B3I⟩,⟨2,3,B3J⟩]
def B83:=mR A7f dM A7U n [a0] h
def A6i:=mL dM A7U 0 n [m] [x1,x2,x4,x12] h
def A6j:=mL dM A7U 1 n [m] [x2,x4,x8] h
def A6U:=dM.K Tryz.func99
def A1B:=dM.S
def B9s:SOk A8 99 A1B:=A6U.sok
def B5g:G3 A7f A1B:=A6U.flat
def fJ:FD A8:=⟨px 0X11b401022bf7053802b492180134013c000002722401a22104401482d13a53a104401482d12a51a1a0180194d25319f5041264215030702441340121294200605111a6021f1d462820023340422e253182,[],[],[.tmp 4],[]⟩
def A2t:=fJ.R
def A8H:AtH:=fJ.lj 0 n [m] [x1,x2,x6,x7]
def B0p:=tT [⟨2,4,A8H⟩]
def B4U:=mR A2t fJ B0p n [a0,a1] h
def A1Z:=mL fJ B0p 0 n [m] [x1,x2,x6,x7] h
def A2f:=fJ.K Tryz.func170
def uP:=fJ.S
def B1p:G3 A2t uP:=A2f.flat
def cL:FD A8:=⟨px 0X14ff607e4f02600001724af19004026c15e4804184ef1800613901011113e6e16e4b05181541307024061201036c49184e3c047f4203006053bf190041824e16839042b271c200003314a1294238f70051b20581380380113484918482a0181f6301d201164812e00001722401b1a19064381a010382f2e49383c383870110122a1a0184b42031648632e27531c2,[],[.min (.t 18) (.t 20),.max (.v (.c o0)) (.t 21)],[.tmp 6],[E1 bH dY,E1 X3 bR]⟩
def A0j:=cL.R
def A6l:AtH:=cL.lj 0 n [m] [x3,x7,x8,x9]
def A7V:=tT [⟨2,4,A6l⟩]
def B2A:=mR A0j cL A7V n [a0,a1,a2] h
def B1W:=mL cL A7V 0 n [m] [x3,x7,x8,x9] h
def A0a:=cL.K Tryz.func209
def pX:=cL.S
def B1m:A4D A0j pX:=A0a.out
def fK:FD A8:=⟨px 0X11b601022df1b052c02d492180136013c0000003722404324a104401482d13a51e1f06592521ef1800441811d3184215030702451340121394200605110292819032f2d2b652c2000033360632e27531c2,[],[],[.tmp 6],[]⟩
def A2u:=fK.R
def A8I:AtH:=fK.lj 0 n [m] [x2,x3,x9,x10,x11]
def B0q:=tT [⟨2,5,A8I⟩]
def B4V:=mR A2u fK B0q n [a0,a1,a2] h
def A10:=mL fK B0q 0 n [m] [x2,x3,x9,x10,x11] h
def B0c:=fK.K Tryz.func241
def A2J:=fK.S
def B1q:G3 A2u A2J:=B0c.flat
def jV:FD A8:=⟨px 0X14ff4001132f494e1c3024df28055a04d49218014cf407e127e00000037224302e1901a2a33692f20691e40148696a17a691f7a69704632692f5e6976c6976849693c5e49693c01103204401482d14c54c2b01f01918f432af504123842150307024413401214b420060511011338491e1c3493f61c240530114012a0000722401b1a19064281a010282f2849283c282870110121a60183b4203140422e253182,[],[],[.tmp 4],[E1 bH dY,E1 X3 bR,E1 pX A0a,E1 A2J B0c]⟩
def A4S:=jV.R
def B0J:AtH:=jV.lj 0 n [m] [x1,x2,x15,x16]
def B3a:=tT [⟨2,4,B0J⟩]
def B7W:=mR A4S jV B3a n [a0,a1] h
def A36:=mL jV B3a 0 n [m] [x1,x2,x15,x16] h
def B2p:=jV.K Tryz.func210
def A5d:=jV.S
def B2V:G3 A4S A5d:=B2p.flat
def X1:FD A8:=⟨px 0X12df40482d021a0000003722cf19052e02c4921802bf5050023a13182404223e104401482d12e51c1c064b3521bf60412184215011a07024513401212d42006051101031a4971c32b296328200231111b42140422e253182,[],[],[.tmp 4],[E1 bH dY]⟩
def A2r:=X1.R
def A8F:AtH:=X1.lj 0 n [m] [x1,x2,x5,x8,x9]
def C0B:AtH:=X1.lj 1 n [m] [x1,x2,x5,x8,x9]
def A2S:=tT [⟨2,5,A8F⟩,⟨2,5,C0B⟩]
def B4S:=mR A2r X1 A2S n [a0,a1] h
def A1Y:=mL X1 A2S 0 n [m] [x1,x2,x5,x8,x9] h
def A1X:=mJ X1 A2S 1 n [m] [x1,x2,x5,x8,x9] h
def B0b:=X1.K Tryz.func211
def A2I:=X1.S
def B1n:G3 A2r A2I:=B0b.flat
def dL:FD A8:=⟨px 0X122f4963f496c1c211111104326bf290518c022180422a601482d13f55f14f15182401b3819018218c1a2042618c2f5f18c71f4918c3c018c4b0181a3518c2f042418c2f4f18c71f4918c3c4f18c71f4918c3c01042337817c49181e0191bd7530172401b181906c4d0126c2f5c6c70110224e38077d42032ff5004401482d1585482c051b422bf404123c4215011a07024513401214d42006051101133c491f1c34b4941c20131ef24961f31b01011f3b0402e55731820122a49601f3b21022240632101031e49180401a62b40192d43031f4c03a253182,[],[],[.cellN 2 33],[E1 X3 bR,E1 bH dY,E1 yQ A4z,E1 uP A2f,E1 A5d B2p,E1 pX A0a,E1 A2I B0b]⟩
def A7e:=dL.R
def zD:AtH:=dL.lj 0 n [m] [x1,x2,x3,x16,x17]
def C4D:AtH:=dL.lj 1 n [m] [x1,x2,x3,x16,x17]
def A7T:=tT [⟨2,5,zD⟩,⟨2,5,C4D⟩]
def B82:=mR A7e dL A7T n [a0] h
def A6h:=mL dL A7T 0 n [m] [x1,x2,x3,x16,x17] h
def fE:=mJ dL A7T 1 n [m] [x1,x2,x3,x16,x17] h
def B6w:=dL.K Tryz.func164
def A7J:=dL.S
def B9r:SOk A8 164 A7J:=B6w.sok
def B5f:G3 A7e A7J:=B6w.flat
def S3:FD A8:=⟨px 0X13cf206a3c0250000003723bf7055803b4921803af3001c13901011113e04401482d15a54a14a118182430181904213f2f3a3f73e493f3c01103204401482d12c51c1a01a4f4219f40412184215011a0702441340121294200605110103184951c31f1d41c201314a174214a03a2342,[],[],[.tmp 2],[E1 bH dY,E1 uP A2f]⟩
def wM:=S3.R
def tM:AtH:=S3.lj 0 n [m] [x1,x3,x6,x7]
def B50:AtH:=S3.lj 1 n [m] [x1,x3,x6,x7]
def wQ:=tT [⟨2,4,tM⟩,⟨2,4,B50⟩]
def B08:=mR wM S3 wQ n [a0] h
def xO:=mL S3 wQ 0 n [m] [x1,x3,x6,x7] h
def lW:=mJ S3 wQ 1 n [m] [x1,x3,x6,x7] h
def wH:=S3.K Tryz.func104
def nA:=S3.S
def nG:SOk A8 104 nA:=wH.sok
def A9X:A4D wM nA:=wH.out
def uC:FD A8:=⟨px 0X118f40062130103184918181500062140422e253182,[],[],[.tmp 4],[E1 X3 bR,E1 B5m C2B]⟩
def A2q:=uC.R
def B4R:=mR A2q uC (tT []) n [a0,a1] h
def A2e:=uC.K Tryz.func148
def uO:=uC.S
def B5h:SOk A8 148 uO:=A2e.sok
def B1l:G3 A2q uO:=A2e.flat
end
section
variable (n m m2:Nat) (a0 a1 a2 x2 x3 x7 x19 x20 x21:Val) (h:A9)
def zM:FD A8:=⟨px 0X15cf607f5c02020116011d00622403f042037f1031803f4f2b51af42100013304ef7006223390722f106213041a7a57a4481c1818243ff3a006203041a6a503180683b2b66d45239f700440162d44e5582e0518242df2b0390124c2c034f651c20510201a1111f46502920116013800001722401b61918b9043e1a3c3e70101b6191012e1a2c2e701503204018182b1b4d420316063a632e319751c2,[],[],[.tmp 6],[E1 bS fM,E1 E3 E8,E1 yU A4B]⟩
def B4N:=zM.R
def C0r:AtH:=zM.lj 0 n [] [x3,x7]
def C2H:=tT [⟨1,2,C0r⟩]
def C32:=mR B4N zM C2H n [a0,a1,a2] h
def C2a:=mJ zM C2H 0 n [] [x3,x7] h
def C2A:=zM.K Tryz.func153
def B5c:=zM.S
def C39:SOk A8 153 B5c:=C2A.sok
def B9o:G3 B4N B5c:=C2A.flat
def yA:FD A8:=⟨px 0X148f50478496102268168493e1c5411623df13cf24961f61b1282801e3c2c3bf2d001230182130410162d45855842e1c1c1f1d11920135024849601f3b33c1000722401b281902e4d018202e2f02e1e10162e6a42e2e1f032e3c02c2e1f01190320401a182b1c4f4203311f4c43a422e419751c2,[],[],[.cellN 4 33,.tmp 5],[E1 bS fM,E1 E3 E8,E1 A1B A6U]⟩
def A4N:=yA.R
def B7R:=mR A4N yA (tT []) n [a0,a1] h
def A4w:=yA.K Tryz.func147
def yN:=yA.S
def B2Q:G3 A4N yN:=A4w.flat
def T7:FD A8:=⟨px 0X14af406e4a024a000000047249f2d053804949218048f700613901011113e5a15c151824042234c1031805e392b4794238f1900441811d33a4215011a07024513401215d42006051102901133a492a1c45b594f52820023174811f1b401d201144813a0000722403f2c28024b422131ff11ef24961f51b11a280181e2c1df1a0042032a1b182a41b1c191d1b119214a43a422e375182,[],[],[.tmp 4],[E1 yN A4w,E1 nA wH,E1 bS fM]⟩
def A0h:=T7.R
def A6f:AtH:=T7.lj 0 n [m] [x2,x7,x19,x20,x21]
def B8r:AtH:=T7.lj 1 n [m] [x2,x7,x19,x20,x21]
def A0z:=tT [⟨2,5,A6f⟩,⟨2,5,B8r⟩]
def B2y:=mR A0h T7 A0z n [a0,a1] h
def A0N:=mL T7 A0z 0 n [m] [x2,x7,x19,x20,x21] h
def A0M:=mJ T7 A0z 1 n [m] [x2,x7,x19,x20,x21] h
def A6S:=T7.K Tryz.func231
def A0t:=T7.S
def B1j:A4D A0h A0t:=A6S.out
end
def D1A (D:Dev) (n:Int) (d:List Int) (j:Nat):Int :=
 if j<6 then d.getD j 0 else bif N9 D.length n (d.getD 6 0) then ptP (blk D (d.getD 6 0)) (j-6) else 0
def vH (D:Dev) (n:Int) (d:List Int) (j:Nat):Int:=bif N9 D.length n (D1A D n d j) then D1A D n d j else 0
def atF (D:Dev) (n k:Int) (d:List Int) (j:Int):Int:=if k=1/\0<=j/\j<134 then vH D n d j.toNat else 0
def C2b {D:Dev} {n m no:Int} {f:Cell} {q:Nat} {g:A9} {r:Option Row}:C0r q (pV g.length 0) (iV no) (g++[rT (vwC D.length n m f),r])=A4 (iV (bif N9 D.length n no then no else 0),g++[rT (vwC D.length n m f),r]):=by
 have l3:=B4C (b:=D.length) (n:=n) (m:=m) (f:=f);have hI:=λh=>cY (b:=D.length) (n:=n) (m:=m) (i:=no) (h:=h)
 rw [C2a];generalize vwC D.length n m f=V at *;cases c:N9 D.length n no with
 | false =>
  simp only [c] at hI;simp only [esc,esh,Nat.reduceAdd,Nat.reduceMul,Nat.reduceLT,l3,hI]
 | true =>
  simp only [c] at hI;simp only [esc,esh,Nat.reduceAdd,Nat.reduceMul,Nat.reduceLT,l3,hI]
def C8q {D:Dev} {n m k l s p j:Int} {d:List Int} {f:Cell} {h:A9} (hD:okD D) (hd:d.length=7) (hv:IsView h f D) :
  B5c [.a (vwC D.length n m f),.a (D4 k l s p d),iV j] h=A4 (iV (atF D n k d j),h):=by
 have key:∀ g,IsView g f D->∃ g',B4N 0 [.a (vwC D.length n m f),.a (D4 k l s p d),iV j] g=A4 (iV (atF D n k d j),g'):=by
  intro g hv;have l3:=B4C (b:=D.length) (n:=n) (m:=m) (f:=f);have l4:=B4D (b:=D.length) (n:=n) (m:=m) (f:=f);have i0:(D4 k l s p d)[0]?=A4 (.i .i64 k):=rfl;have i10:(D4 k l s p d)[10]?=A4 (.i .i64 (d.getD 6 0)):=by
   have:(D4 k l s p d)[10]?=(encI d)[6]? := rfl;rw [this,H0,D9u (by omega),D9z,D9u (by omega)];rfl
  have hJ:=λno=>C2b (D:=D) (n:=n) (m:=m) (no:=no) (f:=f) (q:=0) (g:=g) (r:=rT (D4 k l s p d))
  rw [C32];by_cases c1:k=1
  ·by_cases c2:j<0
   ·have e:atF D n k d j=0:=by unfold atF;rw [if_neg (by omega)]
    rw [e];generalize vwC D.length n m f=V at *;generalize D4 k l s p d=I at *;exact ⟨_,by simp only [esc,esh,Nat.reduceAdd,Nat.reduceMul,Nat.reduceLT,eq_self,i0,c1,c2]<;>rfl⟩
   ·by_cases c3:134<=j
    ·have e:atF D n k d j=0:=by unfold atF;rw [if_neg (by omega)]
     rw [e];generalize vwC D.length n m f=V at *;generalize D4 k l s p d=I at *;exact ⟨_,by simp only [esc,esh,Nat.reduceAdd,Nat.reduceMul,Nat.reduceLT,eq_self,i0,c1,c2,c3]<;>rfl⟩
    ·obtain ⟨i,rfl⟩:∃ i:Nat,j=i:=⟨j.toNat,by omega⟩;have e:atF D n k d i=vH D n d i:=by unfold atF;rw [if_pos (by omega),D9N]
     rw [e];unfold vH;by_cases c4:(i:Int)<6
     ·have er:D1A D n d i=d.getD i 0:=by unfold D1A;rw [if_pos (by omega)]
      have ia:(D4 k l s p d)[4+i]?=A4 (.i .i64 (d.getD i 0)):=by
       have:(D4 k l s p d)[4+i]?=(encI d)[i]? := by
        rw [Nat.add_comm];rfl
       rw [this,H0,D9u (by omega),D9z,D9u (by omega)];rfl
      have ad:=K3 (k:=.i64) (id:=g.length+1) (off:=4) (sz:=1) (j:=i) (n:=6) (by omega);rw [Nat.mul_one] at ad;rw [er];generalize vwC D.length n m f=V at *;generalize D4 k l s p d=I at *;exact ⟨_,by simp only [esc,esh,Nat.reduceAdd,Nat.reduceMul,Nat.reduceLT,eq_self,i0,c1,c2,c3,c4,ad,ia,hJ]<;>rfl⟩
     ·have er:D1A D n d i=bif N9 D.length n (d.getD 6 0) then ptP (blk D (d.getD 6 0)) (i-6) else 0:=by unfold D1A;rw [if_neg (by omega)]
      have hI:=λh=>cY (b:=D.length) (n:=n) (m:=m) (i:=d.getD 6 0) (h:=h)
      rw [er];cases c5:N9 D.length n (d.getD 6 0) with
      | false =>
       simp only [c5] at hI;generalize vwC D.length n m f=V at *;generalize D4 k l s p d=I at *;exact ⟨_,by simp only [esc,esh,Nat.reduceAdd,Nat.reduceMul,Nat.reduceLT,eq_self,i0,i10,c1,c2,c3,c4,l3,hI,hJ]<;>rfl⟩
      | true =>
       simp only [c5] at hI;have hB:=N1 (n:=n) (m:=m) (no:=d.getD 6 0) (h:=g++[rT (vwC D.length n m f),rT (D4 k l s p d)]) hD (hv.more _);have w:D9B .i64 ((i:Int)-6)=((i-6:Nat):Int):=by rw [wrap_i64 (by omega) (by omega)];omega
       have hP:=λh=>B0V (b:=blk D (d.getD 6 0)) (k:=i-6) (h:=h) (J3 hD) (by omega)
       generalize vwC D.length n m f=V at *;generalize D4 k l s p d=I at *;exact ⟨_,by simp only [esc,esh,Nat.reduceAdd,Nat.reduceMul,Nat.reduceLT,eq_self,i0,i10,c1,c2,c3,c4,l3,l4,hI,hB,w,hP,hJ]<;>rfl⟩
  ·have e:atF D n k d j=0:=by unfold atF;rw [if_neg (by omega)]
   rw [e];generalize vwC D.length n m f=V at *;generalize D4 k l s p d=I at *;exact ⟨_,by simp only [esc,esh,Nat.reduceAdd,Nat.reduceMul,Nat.reduceLT,eq_self,i0,c1]<;>rfl⟩
 obtain ⟨g',e⟩:=key (ro h) hv.ro;exact B9o e rfl
def B6f {h:A9} {id n sz:Nat} {cs ys:List Cell} (hr:rd h id=rT cs) (hl:cs.length=n*sz) (hy:ys.length=sz) (hsz:0<sz) (hn:n+1<=1073741824) :
  ∃ h',qK (h++[rT ys]) sz (sV id 0 n sz) (sV h.length 0 1 sz)=A4 (sV (h.length+1) 0 (n+1) sz,h')/\rd h' (h.length+1)=rT (cs++ys)/\(∀ i r,i≠id->rd h i=A4 r->rd h' i=A4 r)/\(∀ b,b<=id->b<=h.length->Low b h h'):=by
 refine ⟨(h++[rT ys]).set id A7++[rT (cs++ys)],?_,?_,λi r hi hir=>?_,λb hb hb2=>(((Low.refl hb2).new _).set hb A7).new _⟩
 ·rw [A72 (h:=h++[rT ys]) (m:=1) (B6 hr) hl O8 (by omega) rfl hsz hn];simp
 ·have:=O8 (h:=(h++[rT ys]).set id A7) (r:=Row.mk (cs++ys) A5);rw [E0c] at this;simpa using this
 ·refine B6 ?_;rw [B7 (Ne.symm hi)];exact B6 hir
def C9z {h:A9} {jd m sz:Nat} {ys:List Cell} (hy:rd h jd=rT ys) (hyl:ys.length=m*sz) (hsz:0<sz) (hn:m<=1073741824) :
  qK h sz (.c .ns) (sV jd 0 m sz)=A4 (sV h.length 0 m sz,h++[rT ys]):=by
 have h2:Q2 h sz (sV jd 0 m sz)=A4 ys:=by
  simp only [Q2,if_true,kY,hy,D9H,D9O,D9T];rw [<-hyl,List.take_length,if_pos ⟨D9x _,rfl⟩]
 have e1:ys.length/sz=m:=by rw [hyl];exact Nat.mul_div_cancel _ hsz
 simp only [qK,h2,D9H];rw [e1,if_pos hn]
def bK (d:Int):Nat:=(max 0 (min d 5)).toNat
def A5v (d:Int):bK d<=5:=by unfold bK;omega
def C9F {d:Int} (h0:0<=d) (h5:d<=5):((bK d:Nat):Int)=d:=by unfold bK;omega
def D2H (d:Int):(max 0 (min d 5))=((bK d:Nat):Int):=by unfold bK;omega
def C4 (d:Int):Nat:=2 ^ bK d
def C1d {n:Nat} (h:n<=5):2 ^ n<=32:=by
 have:=Nat.pow_le_pow_right (n:=2) (by omega) h;simpa using this
def Q5 (d:Int):C4 d<=32:=C1d (A5v d)
def B2c:[o0]++D9w 32 o0=encI (0::zI 32):=by
 simp [encI,zI]
def toX (t:List Int) (i:Nat):Int:=t.getD i 0
def B8P {t:List Int} {i:Nat} (h:i<t.length):t[i]?=A4 (toX t i):=by
 unfold toX;rw [D9z,D9u h];rfl
def B1T (n:Int):Bool:=decide (0<=n)&&decide (n<=65535)
def B0K {n:Int} {h:A9}:yQ [iV n] h=A4 (bV (B1T n),h):=by
 refine B2W (n:=0) (h2:=ro h) ?_ rfl;rw [B7X];unfold B1T;by_cases c:0<=n
 ·simp only [esc,c,D9R]
 ·simp only [esc,c,D9L]
def F6 {d:Int} {t:List Int} (ht:t.length=32):(encI (d::t)).length=33:=by rw [C1];simp [ht]
def D2X {d:Int} {t:List Int} {i:Nat} (ht:t.length=32) (hi:i<32):(encI (d::t))[1+i]?=A4 (.i .i64 (toX t i)):=by
 rw [H0,Nat.add_comm 1 i,D9Z,B8P (by omega)];rfl
def C6g {d:Int} {t:List Int} {i:Nat} {v:Int}:(encI (d::t)).set (1+i) (.i .i64 v)=encI (d::t.set i v):=by
 rw [qY,Nat.add_comm 1 i,List.set_cons_succ]
def ldX {h:A9} {id:Nat} {d:Int} {t:List Int} {rw:Bool} (hr:rd h id=A4 ⟨encI (d::t),rw⟩) (ht:t.length=32) {i:Nat} (hi:i<32):B8 h (pV id (1+i))=A4 (iV (toX t i)) :=
 B9 hr (D2X ht hi) (by simp [Cell.isX])
def adX {id i:Nat} (hi:i<32):I5 32 1 (pV id (0+1)) (iV (i:Int))=A4 (pV id (1+i)):=by rw [K3 hi];simp
def aC {d:Int} {t:List Int} {h:A9}:X3 [.a (encI (d::t))] h=A4 (iV (bK d:Nat),h):=by
 have key:∀ g,∃ g',A2s 0 [.a (encI (d::t))] g=A4 (iV (bK d:Nat),g'):=by
  intro g;have e1:A90 (iV d) (iV 5)=A4 (iV (min d 5)):=by
   simp only [A90];by_cases h:(5:Int)<d
   ·rw [if_pos h,Int.min_eq_right (by omega)]
   ·rw [if_neg h,Int.min_eq_left (by omega)]
  have e2:B8k (iV 0) (iV (min d 5))=A4 (iV (bK d:Nat)):=by
   rw [<-D2H];simp only [B8k];by_cases h:(min d 5:Int) > 0
   ·rw [if_pos h,Int.max_eq_right (by omega)]
   ·rw [if_neg h,Int.max_eq_left (by omega)]
  have e3:B8 (g++[rT (encI (d::t))]) (pV g.length 0)=A4 (iV d):=B9 (O8) rfl rfl;rw [B4T];generalize hz:encI (d::t)=z at *;exact ⟨_,by simp only [esc,e3,e1,e2]<;>rfl⟩
 obtain ⟨g',e⟩:=key (ro h);exact B1o e rfl
def D0j {k:Nat} (hk:k<=5):K6 .shl (iV 1) (.c (.i .u64 (k:Int)))=A4 (iV ((2 ^ k:Nat):Int)):=by
 rw [B3f (by omega)];have h1:E0J (k:Int).toNat (IntKind.i64).bits=k:=by
  have:(IntKind.i64).bits=64:=rfl;rw [this,D9N];exact E0F (by omega)
 have h2:=C1d hk;rw [h1,Int.one_mul];have e:(2:Int) ^ k=((2 ^ k:Nat):Int):=by simp
 rw [e];generalize 2 ^ k=y at h2 ⊢;rw [wrap_i64 (by omega) (by omega)]
def B6r {k:Nat} (hk:k<=64):D9B .u64 (k:Int)=(k:Int):=wrap_u64 (by omega) (by omega)
def cD {d:Int} {t:List Int} {h:A9} (ht:t.length=32):bH [.a (encI (d::t))] h=A4 (iV (C4 d:Nat),h):=by
 have key:∀ g,∃ g',A4T 0 [.a (encI (d::t))] g=A4 (iV (C4 d:Nat),g'):=by
  intro g;have hl:=F6 (d:=d) ht;have hd:=λh=>aC (d:=d) (t:=t) (h:=h)
  have e1:=D0j (A5v d);have e2:=B6r (k:=bK d) (by have:=A5v d;omega);rw [B7Y];unfold C4;generalize encI (d::t)=z at *;exact ⟨_,by simp only [esc,esh,hl,hd,e1,e2]<;>rfl⟩
 obtain ⟨g',e⟩:=key (ro h);exact B2X e rfl
def tK (t:List Int) (i:Nat):Bool:=(D90 i).all λk=>!decide (toX t k=toX t i)
def C0m {d:Int} {t:List Int} {g:A9} {i q:Nat} (ht:t.length=32) (hi:i<32):∀ e k m:Nat,k+e=i->e<m ->
  A8H q m (iV (i:Int)) (pV g.length 0) (iV (i:Int)) (iV (k:Int)) (g++[rT (encI (d::t))]) =
   A4 (bV ((E0g k e).all λk=>!decide (toX t k=toX t i)),g++[rT (encI (d::t))])
 | e,k,0,_,hm=>by omega
 | 0,k,m+1,hk,hm=>by
  have c0:¬ (k:Int)<i:=by omega
  rw [A1Z];simp only [esc,c0,List.range'_zero]
 | e+1,k,m+1,hk,hm=>by
  have ih:=C0m (d:=d) (g:=g) (q:=q) ht hi e (k+1) m (by omega) (by omega);have c0:(k:Int)<i:=by omega
  have a1:=adX (id:=g.length) (i:=k) (by omega);have a2:=adX (id:=g.length) (i:=i) (by omega);have l1:=ldX (h:=g++[rT (encI (d::t))]) (id:=g.length) O8 ht (i:=k) (by omega);have l2:=ldX (h:=g++[rT (encI (d::t))]) (id:=g.length) O8 ht (i:=i) (by omega);rw [A1Z,List.range'_succ,E0j];by_cases c:toX t k=toX t i
  ·rw [decide_eq_true c,Bool.not_true,D9L];rw [c] at l1;simp only [esc,c0,a1,a2,l1,l2]
  ·rw [decide_eq_false c,E0E,D9R];simp only [esc,c0,a1,a2,l1,l2,c,D9 (show k+1<9223372036854775808 by omega)];exact ih
def A8G {d:Int} {t:List Int} {i:Nat} {h:A9} (ht:t.length=32) (hi:i<32):uP [.a (encI (d::t)),iV (i:Int)] h=A4 (bV (tK t i),h):=by
 have key:∀ N,i<N->∀ g,∃ g',A2t N [.a (encI (d::t)),iV (i:Int)] g=A4 (bV (tK t i),g'):=by
  intro N hN g;have e:=C0m (d:=d) (g:=g) (q:=N) ht hi i 0 N (by omega) hN;rw [B4U];unfold tK;rw [List.range_eq_range'];exact ⟨_,by simp only [esc];exact e⟩
 obtain ⟨g',e⟩:=key (i+1) (by omega) (ro h);exact B1p e rfl
def S9 (n p b:Nat):List Nat:=(D90 n).filter λk=>k%2 ^ b==p%2 ^ b
def yY (l:List Nat):List Int:=l.map λ(n:Nat)=>(n:Int)
def A8o (l:List Nat):(yY l).length=l.length:=by simp [yY]
def bX (d b:Int):Nat:=(max 0 (min b (bK d:Nat))).toNat
def D7G (d b:Int):bX d b<=bK d:=by unfold bX;omega
def plX (d p b:Int):List Nat:=if 0<=p/\p<(C4 d:Nat) then S9 (C4 d) p.toNat (bX d b) else []
def A91 (n s r i:Nat):List Nat:=(D90 n).filter λk=>decide (k<i)&&(k%s==r)
def D0C {n s r i:Nat} (hs:0<s) (hi:i<n) (hr:i%s=r):A91 n s r (i+s)=A91 n s r i++[i]:=by
 unfold A91;have e:D90 n=D90 i++(i::E0g (i+1) (n-i-1)):=by
  have e1:D90 n=E0g 0 (i+(n-i-1+1)):=by
   rw [List.range_eq_range'];congr 1;omega
  rw [e1,<-List.range'_append_1,List.range_eq_range',D9T,List.range'_succ]
 rw [e,List.filter_append,List.filter_append,E0H,E0H];have h1:(D90 i).filter (λk=>decide (k<i+s)&&(k%s==r))=(D90 i).filter (λk=>decide (k<i)&&(k%s==r)):=by
  refine List.filter_congr λk hk=>?_
  have:=List.mem_range.1 hk;rw [decide_eq_true (show k<i+s by omega),decide_eq_true this]
 have h2:(E0g (i+1) (n-i-1)).filter (λk=>decide (k<i+s)&&(k%s==r))=[]:=by
  rw [List.filter_eq_nil_iff];intro k hk;have hk:=List.mem_range'_1.1 hk;by_cases c:k<i+s
  ·have:k%s≠r:=by
    intro e;have e1:=Nat.div_add_mod k s;have e2:=Nat.div_add_mod i s;rw [e] at e1;rw [hr] at e2;have e4:s*(i/s)<s*(k/s):=by omega
    have e5:i/s<k/s:=Nat.lt_of_mul_lt_mul_left e4;have e6:s*(i/s+1)<=s*(k/s):=Nat.mul_le_mul_left _ e5;rw [Nat.mul_add] at e6;omega
   simp [this]
  ·simp [c]
 have h3:(E0g (i+1) (n-i-1)).filter (λk=>decide (k<i)&&(k%s==r))=[]:=by
  rw [List.filter_eq_nil_iff];intro k hk;have hk:=List.mem_range'_1.1 hk;rw [decide_eq_false (by omega)];simp
 rw [h1,h2,h3,hr];simp [hs]
def D2r {n s r i:Nat} (hi:n<=i):A91 n s r i=(D90 n).filter λk=>k%s==r:=by
 unfold A91;refine List.filter_congr λk hk=>?_
 have:=List.mem_range.1 hk;rw [decide_eq_true (show k<i by omega),D9R]
def B9P {n s r:Nat}:A91 n s r r=[]:=by
 unfold A91;rw [List.filter_eq_nil_iff];intro k hk;by_cases c:k<r
 ·have:k%s<=k:=Nat.mod_le _ _;have:¬ k%s=r:=by omega
  simp [this]
 ·simp [c]
def C5M (n s r i:Nat):(A91 n s r i).length<=n:=by
 unfold A91;exact D93 (E0m _ _) (by simp)
def B7w {d:Int} {t:List Int} {g:A9} {s r q:Nat} (ht:t.length=32) (hs:0<s) (hs2:s<=32):∀ (e i m:Nat) (h:A9) (id:Nat),C4 d<=i+e->i<=64->e<m->i%s=r->Low (g++[rT (encI (d::t))]).length (g++[rT (encI (d::t))]) h->(g++[rT (encI (d::t))]).length<=id->rd h id=rT (encI (yY (A91 (C4 d) s r i))) ->
  ∃ v h',A6l q m (pV g.length 0) (iV (s:Int)) (sV id 0 (A91 (C4 d) s r i).length 1) (iV (i:Int)) h=A4 (v,h') /\
   Out g.length h' v 1 ((D90 (C4 d)).filter λk=>k%s==r).length (encI (yY ((D90 (C4 d)).filter λk=>k%s==r)))
 | e,i,0,h,id,_,_,hm,_,_,_,_=>by omega
 | e,i,m+1,h,id,hi,hi2,hm,hr,hlow,hid,hrd=>by
  have hB:=F6 (d:=d) ht;have s1:=C9 (h:=h) (id:=g.length) (cs:=encI (d::t)) (hlow.rd (by simp)) hB;have hM:=λh=>cD (d:=d) (h:=h) ht
  have D3h:=Q5 d;have hbl:=C5M (C4 d) s r i;rw [D9A] at hid;rw [B1W];by_cases c:i<C4 d
  ·obtain ⟨e,rfl⟩:∃ e',e=e'+1:=⟨e-1,by omega⟩;have c0:(i:Int)<(C4 d:Nat):=by omega
   have en:=D0C hs c hr;obtain ⟨h1,a1,a2,a3,a4,a5⟩:=push (ys:=[.i .i64 (i:Int)]) (sz:=1) (n:=(A91 (C4 d) s r i).length) hlow hrd (by rw [C1,A8o];omega) (by rw [D9A];exact hid) rfl (by omega) (by omega);have he:encI (yY (A91 (C4 d) s r i))++[.i .i64 (i:Int)]=encI (yY (A91 (C4 d) s r (i+s))):=by rw [en];simp [encI,yY]
   rw [he] at a2;obtain ⟨v,h',f1,f2⟩:=B7w (q:=q) ht hs hs2 e (i+s) m h1 (h.length+1) (by omega) (by omega) (by omega) (by rw [Nat.add_mod_right];exact hr) a3 a4 a2;have hl1:(A91 (C4 d) s r (i+s)).length=(A91 (C4 d) s r i).length+1:=by rw [en];simp
   rw [hl1] at f1;have ef:E7 [o0] [(0,1,iV (i:Int))]=A4 [.i .i64 (i:Int)]:=rfl;refine ⟨v,h',?_,f2⟩;simp only [esc,s1,hM,c0,ef,a1,A09 (show i+s<9223372036854775808 by omega)];exact f1
  ·have c0:¬ (i:Int)<(C4 d:Nat):=by omega
   rw [D2r (by omega)] at hrd ⊢;refine ⟨_,_,by simp only [esc,s1,hM,c0]<;>rfl,by rw [C1,A8o];omega,_,rfl,by omega,hrd⟩
def amm {b:Int} {d:Nat}:∃ w,A90 (iV b) (iV (d:Int))=A4 (iV w)/\B8k (iV 0) (iV w)=A4 (iV ((max 0 (min b d)).toNat:Nat)):=by
 refine ⟨min b d,?_,?_⟩
 ·simp only [A90];by_cases h:(d:Int)<b
  ·rw [if_pos h,Int.min_eq_right (by omega)]
  ·rw [if_neg h,Int.min_eq_left (by omega)]
 ·simp only [B8k];by_cases h:(min b d:Int) > 0
  ·rw [if_pos h,Int.max_eq_right (by omega),Int.toNat_of_nonneg (by omega)]
  ·rw [if_neg h,Int.max_eq_left (by omega)];rfl
def A6k {d:Int} {t:List Int} {p b:Int} {h:A9} (ht:t.length=32) :
  pX [.a (encI (d::t)),iV p,iV b] h=A4 (sV h.length 0 (plX d p b).length 1,h++[rT (encI (yY (plX d p b)))]):=by
 have key:∀ N,64<N->∀ g,∃ v g',A0j N [.a (encI (d::t)),iV p,iV b] g=A4 (v,g')/\Out g.length g' v 1 (plX d p b).length (encI (yY (plX d p b))):=by
  intro N hN g;have hB:=F6 (d:=d) ht;have hM:=λh=>cD (d:=d) (h:=h) ht
  have hD:=λh=>aC (d:=d) (t:=t) (h:=h)
  have D3h:=Q5 d;rw [B2A];unfold plX;by_cases c1:p<0
  ·rw [if_neg (by omega)];refine ⟨sV (g.length+2) 0 0 1,g++[rT (encI (d::t)),rT [],rT []],?_,rfl,g.length+2,rfl,by omega,by simp [encI,yY]⟩;generalize encI (d::t)=z at *;simp only [esc,c1]
  ·by_cases c2:((C4 d:Nat):Int)<=p
   ·rw [if_neg (by omega)];refine ⟨sV (g.length+2) 0 0 1,g++[rT (encI (d::t)),rT [],rT []],?_,rfl,g.length+2,rfl,by omega,by simp [encI,yY]⟩;generalize encI (d::t)=z at *;simp only [esc,esh,Nat.reduceAdd,hB,hM,c1,c2]
   ·rw [if_pos (by omega)];obtain ⟨p,rfl⟩:∃ n:Nat,p=n:=⟨p.toNat,by omega⟩;rw [D9N];obtain ⟨w,m1,m2⟩:=amm (b:=b) (d:=bK d);have hbx:=D7G d b;have hdl:=A5v d;change B8k _ _=A4 (iV ((bX d b:Nat):Int)) at m2;have e1:=D0j (k:=bX d b) (by omega);have e2:=B6r (k:=bX d b) (by omega);have hp0:0<2 ^ bX d b:=Nat.pow_pos (by omega);have hp1:=C1d (show bX d b<=5 by omega);have e3:K6 .rem (iV (p:Int)) (iV ((2 ^ bX d b:Nat):Int))=A4 (iV ((p%2 ^ bX d b:Nat):Int)):=by
     rw [C3B (by omega) (by omega)];simp
    have hpm:p%2 ^ bX d b<2 ^ bX d b:=Nat.mod_lt _ hp0;unfold S9;generalize 2 ^ bX d b=s at *;obtain ⟨v,g',f1,f2⟩:=B7w (g:=g) (d:=d) (t:=t) (q:=N) (s:=s) (r:=p%s) ht hp0 hp1 (C4 d) (p%s) N (g++[rT (encI (d::t)),rT [],rT []]) (g.length+2) (by omega) (by omega) (by omega) (Nat.mod_mod _ _)
     (by have:=(Low.refl (h:=g++[rT (encI (d::t))]) (D9x _)).new [rT [],rT []];simpa using this) (by simp) (by rw [B9P];simp [encI,yY])
    rw [B9P] at f1;refine ⟨v,g',?_,f2⟩;generalize encI (d::t)=z at *;simp only [esc,esh,Nat.reduceAdd,hB,hM,hD,c1,c2,m1,m2,e1,e2,e3] at f1 ⊢;exact f1
 obtain ⟨v,g',e,ho⟩:=key (h.length+65) (by omega) (ro h);exact B1m e (by simpa [G5] using ho) (by simp)
def C18 {l:List Nat} {i:Nat} (hi:i<l.length):(encI (yY l))[i]?=A4 (.i .i64 ((l[i]:Nat):Int)):=by
 rw [H0];unfold yY;rw [E0C,D9u hi];rfl
def A5Z (t:List Int) (l:List Nat) (no:Int):Bool:=l.all λk=>decide (toX t k=no)
def C1H {d no:Int} {t:List Int} {g:A9} {v:Val} {l:List Nat} {q:Nat} (ht:t.length=32) (hl:∀ k∈l,k<32) (hv:Has g v 1 l.length (encI (yY l))) (hll:l.length<9223372036854775807):∀ e i m:Nat,i+e=l.length->e<m ->
  A8I q m (iV no) (pV g.length 0) v (iV (l.length:Nat)) (iV (i:Int)) (g++[rT (encI (d::t))])=A4 (bV (A5Z t (l.drop i) no),g++[rT (encI (d::t))])
 | e,i,0,_,hm=>by omega
 | 0,i,m+1,hi,hm=>by
  have c0:¬ (i:Int)<(l.length:Nat):=by omega
  rw [A10,D9K (by omega)];simp only [esc,c0,A5Z]
 | e+1,i,m+1,hi,hm=>by
  have ih:=C1H (d:=d) (no:=no) (q:=q) ht hl hv hll e (i+1) m (by omega) (by omega);have c0:(i:Int)<(l.length:Nat):=by omega
  obtain ⟨id,off,ev,hid,k1,k2⟩:=(hv.more [rT (encI (d::t))]).sl (by omega);have hx:=k1 i _ (C18 (by omega));have eb:E5 1 v (iV (i:Int))=A4 (pV id (off+i)):=by rw [ev,D8 (by omega)];simp
  have hk:=hl l[i] (D9Y (by omega));have a1:=adX (id:=g.length) (i:=l[i]) hk;have l1:=ldX (h:=g++[rT (encI (d::t))]) (id:=g.length) O8 ht (i:=l[i]) hk;rw [A10,D9E (by omega:i<l.length),A5Z,E0j];rw [A5Z] at ih;by_cases c:toX t l[i]=no
  ·rw [decide_eq_true c,D9R];rw [c] at l1;simp only [esc,c0,eb,hx,a1,l1,D9 (show i+1<9223372036854775808 by omega)];exact ih
  ·rw [decide_eq_false c,D9L];simp only [esc,c0,eb,hx,a1,l1,c]
def C0C {d no:Int} {t:List Int} {h:A9} {v:Val} {l:List Nat} (ht:t.length=32) (hl:∀ k∈l,k<32) (hv:Has h v 1 l.length (encI (yY l))) (hll:l.length<9223372036854775807) :
  A2J [.a (encI (d::t)),v,iV no] h=A4 (bV (A5Z t l no),h):=by
 have key:∀ N,l.length<N->∀ g,Has g v 1 l.length (encI (yY l))->∃ g',A2u N [.a (encI (d::t)),v,iV no] g=A4 (bV (A5Z t l no),g'):=by
  intro N hN g hv;have e:=C1H (d:=d) (no:=no) (q:=N) ht hl hv hll l.length 0 N (by omega) hN;rw [D9O] at e;rw [B4V];exact ⟨_,by simp only [esc,hv.len];exact e⟩
 obtain ⟨g',e⟩:=key (l.length+1) (by omega) (ro h) hv.ro;exact B1q e rfl
def C8V {n p b:Nat} (hn:n<=32):∀ k∈S9 n p b,k<32:=by
 intro k hk;have:=List.mem_range.1 (List.mem_filter.1 hk).1;omega
def C1b (n p b:Nat):(S9 n p b).length<=n:=D93 (E0m _ _) (by simp)
def D3T {d:Int} {p b:Nat} (hp:p<C4 d) (hb:b<=bK d):plX d p b=S9 (C4 d) p b:=by
 unfold plX;have:bX d b=b:=by unfold bX;omega
 rw [if_pos ⟨by omega,by omega⟩,this,D9N]
def A3G (n:Nat) (t:List Int) (p b:Nat):Bool:=!decide (toX t p=0)&&A5Z t (S9 n p b) (toX t p)
def U1 (n:Nat) (t:List Int) (p:Nat):Nat->Nat->Nat
 | b,0=>b
 | b,e+1=>bif A3G n t p b then b else U1 n t p (b+1) e
def S4 (d:Int) (t:List Int) (p:Nat):Nat:=U1 (C4 d) t p 0 (bK d)
def B5G {d:Int} {t:List Int} {g:A9} {p q:Nat} (ht:t.length=32) (hp:p<C4 d):∀ (e b m:Nat) (h:A9),b+e=bK d->e<m->Low (g++[rT (encI (d::t))]).length (g++[rT (encI (d::t))]) h ->
  ∃ h',B0J q m (iV (p:Int)) (pV g.length 0) (iV (bK d:Nat)) (iV (b:Int)) h=A4 (iV (U1 (C4 d) t p b e:Nat),h')
 | e,b,0,h,_,hm,_=>by omega
 | 0,b,m+1,h,hb,hm,hlow=>by
  have e0:b=bK d:=by omega
  subst e0;have c0:¬ ((bK d:Nat):Int)<(bK d:Nat):=by omega
  have hB:=F6 (d:=d) ht;have s1:=C9 (h:=h) (id:=g.length) (cs:=encI (d::t)) (hlow.rd (by simp)) hB;have hD:=λh=>aC (d:=d) (t:=t) (h:=h)
  rw [A36];generalize encI (d::t)=z at *;exact ⟨_,by simp only [esc,c0,s1,hD,U1]<;>rfl⟩
 | e+1,b,m+1,h,hb,hm,hlow=>by
  have D3h:=Q5 d;have hdl:=A5v d;have c0:(b:Int)<(bK d:Nat):=by omega
  have hB:=F6 (d:=d) ht;have hrd:rd h g.length=rT (encI (d::t)):=hlow.rd (by simp);have s1:=C9 (h:=h) (id:=g.length) (cs:=encI (d::t)) hrd hB;have a1:=adX (id:=g.length) (i:=p) (by omega);have l1:=ldX (h:=h) (id:=g.length) hrd ht (i:=p) (by omega);have hP:=A6k (d:=d) (p:=p) (b:=b) (h:=h) ht;rw [D3T hp (by omega)] at hP;have hq:=Y7 ((Grows.rfl' (h:=h)).new (encI (yY (S9 (C4 d) p b)))) (v:=sV h.length 0 (S9 (C4 d) p b).length 1);have hW:=C0C (d:=d) (no:=toX t p) (h:=h++[rT (encI (yY (S9 (C4 d) p b)))]) (v:=sV h.length 0 (S9 (C4 d) p b).length 1) ht (C8V (p:=p) (b:=b) D3h) (Has.row (rw:=A5) O8 (by rw [C1,A8o];omega) (A80 _)) (by have:=C1b (C4 d) p b;omega);have l2:=ldX (h:=h++[rT (encI (yY (S9 (C4 d) p b)))]) (id:=g.length) (B6 hrd) ht (i:=p) (by omega);rw [A36,U1];unfold A3G;by_cases cz:toX t p=0
  ·obtain ⟨h',ih⟩:=B5G (q:=q) ht hp e (b+1) m h (by omega) (by omega) hlow;rw [decide_eq_true cz,Bool.not_true,D9L,cond_false];rw [cz] at l1;refine ⟨h',?_⟩;generalize encI (d::t)=z at *;simp only [esc,c0,a1,l1,D9 (show b+1<9223372036854775808 by omega)];exact ih
  ·rw [decide_eq_false cz,E0E,D9R];cases cw:A5Z t (S9 (C4 d) p b) (toX t p) with
   | true =>
    rw [cw] at hW;rw [cond_true];generalize encI (d::t)=z at *;exact ⟨_,by simp only [esc,c0,a1,l1,cz,s1,hP,hq,hW]<;>rfl⟩
   | false =>
    rw [cw] at hW;obtain ⟨h',ih⟩:=B5G (q:=q) ht hp e (b+1) m (h++[rT (encI (yY (S9 (C4 d) p b)))]) (by omega) (by omega) (hlow.new _);rw [cond_false];refine ⟨h',?_⟩;generalize encI (d::t)=z at *;simp only [esc,c0,a1,l1,cz,s1,hP,hq,hW,D9 (show b+1<9223372036854775808 by omega)];exact ih
def D2s (d:Int) (t:List Int) (p:Int):Nat:=if 0<=p/\p<(C4 d:Nat) then S4 d t p.toNat else 0
def C2g {d:Int} {t:List Int} {p:Int} {h:A9} (ht:t.length=32):A5d [.a (encI (d::t)),iV p] h=A4 (iV (D2s d t p:Nat),h):=by
 have key:∀ N,5<N->∀ g,∃ g',A4S N [.a (encI (d::t)),iV p] g=A4 (iV (D2s d t p:Nat),g'):=by
  intro N hN g;have hB:=F6 (d:=d) ht;have hM:=λh=>cD (d:=d) (h:=h) ht
  have hD:=λh=>aC (d:=d) (t:=t) (h:=h)
  have hdl:=A5v d;rw [B7W];unfold D2s;by_cases c1:p<0
  ·rw [if_neg (by omega)];generalize encI (d::t)=z at *;exact ⟨_,by simp only [esc,c1]<;>rfl⟩
  ·by_cases c2:((C4 d:Nat):Int)<=p
   ·rw [if_neg (by omega)];generalize encI (d::t)=z at *;exact ⟨_,by simp only [esc,esh,hB,hM,c1,c2]<;>rfl⟩
   ·rw [if_pos (by omega)];obtain ⟨p,rfl⟩:∃ n:Nat,p=n:=⟨p.toNat,by omega⟩;rw [D9N];obtain ⟨h',e⟩:=B5G (g:=g) (q:=N) ht (show p<C4 d by omega) (bK d) 0 N (g++[rT (encI (d::t))]) (by omega) (by omega) (Low.refl (D9x _));unfold S4;refine ⟨h',?_⟩;generalize encI (d::t)=z at *;simp only [esc,esh,hB,hM,hD,c1,c2];exact e
 obtain ⟨g',e⟩:=key (h.length+6) (by omega) (ro h);exact B2V e rfl
def D4Q {d:Int} {t:List Int} {p:Nat} (hp:p<C4 d):D2s d t p=S4 d t p:=by
 unfold D2s;rw [if_pos ⟨by omega,by omega⟩,D9N]
def qW (n:Nat) (t:List Int) (no:Int):Nat:=((D90 n).filter λk=>decide (toX t k=no)).length
def C55 {n:Nat} {t:List Int} {no:Int}:qW (n+1) t no=qW n t no+(if toX t n=no then 1 else 0):=by
 unfold qW;rw [List.range_succ,List.filter_append,D9A,E0H];by_cases c:toX t n=no<;>simp [c]
def D0L {n:Nat} {t:List Int} {no:Int}:qW n t no<=n:=D93 (E0m _ _) (by simp)
def B99 {d no:Int} {t:List Int} {g:A9} {n q:Nat} (ht:t.length=32) (hn:n<=32):∀ e i m:Nat,i+e=n->e<m ->
  A8F q m (iV no) (pV g.length 0) (iV (qW i t no:Nat)) (iV (n:Int)) (iV (i:Int)) (g++[rT (encI (d::t))])=A4 (iV (qW n t no:Nat),g++[rT (encI (d::t))])
 | e,i,0,_,hm=>by omega
 | 0,i,m+1,hi,hm=>by
  have e0:i=n:=by omega
  subst e0;have c0:¬ (i:Int)<i:=by omega
  rw [A1Y];simp only [esc,c0]
 | e+1,i,m+1,hi,hm=>by
  have ih:=B99 (d:=d) (no:=no) (g:=g) (q:=q) ht hn e (i+1) m (by omega) (by omega);have c0:(i:Int)<n:=by omega
  have a1:=adX (id:=g.length) (i:=i) (by omega);have l1:=ldX (h:=g++[rT (encI (d::t))]) (id:=g.length) O8 ht (i:=i) (by omega);have hc:=D0L (n:=i) (t:=t) (no:=no);rw [C55] at ih;rw [A1Y];generalize qW i t no=C at *;by_cases c:toX t i=no
  ·rw [if_pos c] at ih;rw [c] at l1;simp only [esc,c0,a1,l1,A1X,D9 (show C+1<9223372036854775808 by omega),D9 (show i+1<9223372036854775808 by omega)];exact ih
  ·rw [if_neg c,E0D] at ih;simp only [esc,c0,a1,l1,c,A1X,D9 (show i+1<9223372036854775808 by omega)];exact ih
def C0A {d no:Int} {t:List Int} {h:A9} (ht:t.length=32):A2I [.a (encI (d::t)),iV no] h=A4 (iV (qW (C4 d) t no:Nat),h):=by
 have key:∀ N,32<N->∀ g,∃ g',A2r N [.a (encI (d::t)),iV no] g=A4 (iV (qW (C4 d) t no:Nat),g'):=by
  intro N hN g;have hB:=F6 (d:=d) ht;have hM:=λh=>cD (d:=d) (h:=h) ht
  have hm:=Q5 d;have e:=B99 (d:=d) (no:=no) (g:=g) (q:=N) ht hm (C4 d) 0 N (by omega) (by omega);rw [show qW 0 t no=0 from rfl] at e;rw [B4S];generalize encI (d::t)=z at *;exact ⟨_,by simp only [esc,esh,hB,hM];exact e⟩
 obtain ⟨g',e⟩:=key (h.length+33) (by omega) (ro h);exact B1n e rfl
def B00 (d:Int) (t:List Int) (i:Nat):Bool:=decide ((S9 (C4 d) i (S4 d t i)).length=qW (C4 d) t (toX t i))
def rA (d:Int) (t:List Int) (i:Nat):Bool:=!decide (toX t i=0)&&(B1T (toX t i)&&(tK t i||B00 d t i))
def rH (d:Int) (t:List Int) (i:Nat):Int:=bif rA d t i then toX t i else 0
def gY (d:Int) (t:List Int) (k:Nat):List Int:=(D90 k).map (rH d t)++zI (32-k)
def iZ {d:Int} {t:List Int} {k:Nat} (hk:k<=32):(gY d t k).length=32:=by simp [gY,zI];omega
def D0Y {d:Int} {t:List Int}:gY d t 0=zI 32:=rfl
def D0X {d:Int} {t:List Int} {k:Nat} (hk:k<32):gY d t (k+1)=(gY d t k).set k (rH d t k):=by
 unfold gY;have e:zI (32-k)=0::zI (32-(k+1)):=by
  unfold zI;rw [show 32-k=(32-(k+1))+1 by omega,D92]
 rw [e,D96 _ _ (by simp),List.range_succ,E0h,D9C];simp
def D0W {d:Int} {t:List Int} {k:Nat} (hk:k<32) (hf:rH d t k=0):gY d t (k+1)=gY d t k:=by
 unfold gY;have e:zI (32-k)=0::zI (32-(k+1)):=by
  unfold zI;rw [show 32-k=(32-(k+1))+1 by omega,D92]
 rw [e,List.range_succ,E0h,D9C];simp [hf]
def C0o {d:Int} {t:List Int} {g:A9} {q:Nat} (ht:t.length=32):∀ (e i m:Nat) (h:A9),i+e=C4 d->e<m->Low (g++[rT (encI (d::t)),rT (encI (0::zI 32))]).length (g++[rT (encI (d::t)),rT (encI (0::zI 32))]) h->rd h (g.length+2)=rT (encI (d::gY d t i)) ->
  ∃ h',zD q m (pV g.length 0) (pV (g.length+1) 0) (pV (g.length+2) 0) (iV (C4 d:Nat)) (iV (i:Int)) h=A4 (.a (encI (d::gY d t (C4 d))),h')
 | e,i,0,h,_,hm,_,_=>by omega
 | 0,i,m+1,h,hi,hm,hlow,hr=>by
  have e0:i=C4 d:=by omega
  subst e0;have c0:¬ ((C4 d:Nat):Int)<(C4 d:Nat):=by omega
  have hF:=F6 (d:=d) (iZ (d:=d) (t:=t) (Q5 d));have hz:(encI (0::zI 32)).length=33:=F6 (d:=0) K4;have hr1:rd h (g.length+1)=rT (encI (0::zI 32)):=hlow.rd (by simp);have s1:=C9 (h:=h) (id:=g.length+2) hr hF;have s2:=storeAll (h:=h) (id:=g.length+1) (xs:=encI (d::gY d t (C4 d))) hr1 hz hF;have s3:=C9 (h:=h.set (g.length+1) (rT (encI (d::gY d t (C4 d))))) (id:=g.length+1) (D1 (D7 hr1)) hF;rw [A6h];generalize encI (d::gY d t (C4 d))=z at *;exact ⟨_,by simp only [esc,c0,s1,s2,s3]<;>rfl⟩
 | e+1,i,m+1,h,hi,hm,hlow,hr=>by
  have D3h:=Q5 d;have c0:(i:Int)<(C4 d:Nat):=by omega
  have hB:=F6 (d:=d) ht;have hrd:rd h g.length=rT (encI (d::t)):=hlow.rd (by simp);have s1:=C9 (h:=h) (id:=g.length) (cs:=encI (d::t)) hrd hB;have a1:=adX (id:=g.length) (i:=i) (by omega);have l1:=ldX (h:=h) (id:=g.length) hrd ht (i:=i) (by omega);have hFi:=λh=>B0K (n:=toX t i) (h:=h)
  have hFs:=λh=>A8G (d:=d) (t:=t) (i:=i) (h:=h) ht (by omega)
  have w1:=D9 (show i+1<9223372036854775808 by omega);have hk:i<32:=by omega
  have skip:rH d t i=0->∀ h2,Low (g++[rT (encI (d::t)),rT (encI (0::zI 32))]).length (g++[rT (encI (d::t)),rT (encI (0::zI 32))]) h2->rd h2 (g.length+2)=rT (encI (d::gY d t i)) ->
    ∃ h',zD q m (pV g.length 0) (pV (g.length+1) 0) (pV (g.length+2) 0) (iV (C4 d:Nat)) (iV ((i+1:Nat):Int)) h2=A4 (.a (encI (d::gY d t (C4 d))),h'):=by
   intro hf h2 hlow2 hr2;exact C0o (q:=q) ht e (i+1) m h2 (by omega) (by omega) hlow2 (by rw [D0W hk hf];exact hr2)
  have a3:=adX (id:=g.length+2) (i:=i) hk;have put:rH d t i=toX t i->∀ h2,Low (g++[rT (encI (d::t)),rT (encI (0::zI 32))]).length (g++[rT (encI (d::t)),rT (encI (0::zI 32))]) h2->rd h2 (g.length+2)=rT (encI (d::gY d t i)) ->
    ∃ h3,H1 h2 (pV (g.length+2) (1+i)) (iV (toX t i))=A4 h3/\∃ h',zD q m (pV g.length 0) (pV (g.length+1) 0) (pV (g.length+2) 0) (iV (C4 d:Nat)) (iV ((i+1:Nat):Int)) h3=A4 (.a (encI (d::gY d t (C4 d))),h'):=by
   intro hf h2 hlow2 hr2;have hF:=F6 (d:=d) (iZ (d:=d) (t:=t) (k:=i) (by omega));have t1:=I3 (x:=.i .i64 (toX t i)) (off:=1+i) hr2 (by rw [hF];omega);rw [C6g,<-hf,<-D0X hk,hf] at t1;refine ⟨_,t1,C0o (q:=q) ht e (i+1) m _ (by omega) (by omega) (hlow2.set (by simp) _) (D1 (D7 hr2))⟩
  rw [A6h];by_cases cz:toX t i=0
  ·have hf:rH d t i=0:=by unfold rH rA;rw [decide_eq_true cz];rfl
   obtain ⟨h',ih⟩:=skip hf h hlow hr;rw [cz] at l1;refine ⟨h',?_⟩;generalize encI (d::t)=z at *;simp only [esc,c0,a1,l1,fE,w1];exact ih
  ·cases cf:B1T (toX t i) with
   | false =>
    rw [cf] at hFi;have hf:rH d t i=0:=by unfold rH rA;rw [cf,D9L,Bool.and_false,cond_false]
    obtain ⟨h',ih⟩:=skip hf h hlow hr;refine ⟨h',?_⟩;generalize encI (d::t)=z at *;simp only [esc,c0,a1,l1,cz,hFi,fE,w1];exact ih
   | true =>
    rw [cf] at hFi;cases cs:tK t i with
    | true =>
     rw [cs] at hFs;have hf:rH d t i=toX t i:=by unfold rH rA;rw [cf,cs,decide_eq_false cz];rfl
     obtain ⟨h3,st,h',ih⟩:=put hf h hlow hr;refine ⟨h',?_⟩;generalize encI (d::t)=z at *;simp only [esc,c0,a1,l1,cz,hFi,s1,hFs,a3,st,fE,w1];exact ih
    | false =>
     rw [cs] at hFs;have hBi:=λh=>C2g (d:=d) (t:=t) (p:=(i:Int)) (h:=h) ht
     rw [D4Q (by omega)] at hBi;have hbl:S4 d t i<=bK d:=by
      have:∀ e b,U1 (C4 d) t i b e<=b+e:=by
       intro e
       induction e with
       | zero=>intro b;exact D9x _
       | succ e ih =>
        intro b;unfold U1;cases A3G (C4 d) t i b
        ·rw [cond_false];have:=ih (b+1);omega
        ·rw [cond_true];omega
      have:=this (bK d) 0;unfold S4;omega
     have hP:=A6k (d:=d) (p:=(i:Int)) (b:=(S4 d t i:Nat)) (h:=h) ht;rw [D3T (by omega) hbl] at hP;have hq:=Y7 ((Grows.rfl' (h:=h)).new (encI (yY (S9 (C4 d) i (S4 d t i))))) (v:=sV h.length 0 (S9 (C4 d) i (S4 d t i)).length 1);have hC:=λh=>C0A (d:=d) (no:=toX t i) (h:=h) ht
     have ew:decide (((S9 (C4 d) i (S4 d t i)).length:Int)=((qW (C4 d) t (toX t i):Nat):Int))=B00 d t i:=by
      unfold B00;by_cases c:(S9 (C4 d) i (S4 d t i)).length=qW (C4 d) t (toX t i)
      ·rw [decide_eq_true c,decide_eq_true (by omega)]
      ·rw [decide_eq_false c,decide_eq_false (by omega)]
     have hlow2:=hlow.new [rT (encI (yY (S9 (C4 d) i (S4 d t i))))];have hr2:rd (h++[rT (encI (yY (S9 (C4 d) i (S4 d t i))))]) (g.length+2)=rT (encI (d::gY d t i)):=B6 hr;cases cw:B00 d t i with
     | true =>
      rw [cw] at ew;have hf:rH d t i=toX t i:=by unfold rH rA;rw [cf,cs,cw,decide_eq_false cz];rfl
      obtain ⟨h3,st,h',ih⟩:=put hf _ hlow2 hr2;refine ⟨h',?_⟩;generalize encI (d::t)=z at *;simp only [esc,c0,a1,l1,cz,hFi,s1,hFs,hBi,hP,hq,hC,ew,a3,st,fE,w1];exact ih
     | false =>
      rw [cw] at ew;have hf:rH d t i=0:=by unfold rH rA;rw [cf,cs,cw,decide_eq_false cz];rfl
      obtain ⟨h',ih⟩:=skip hf _ hlow2 hr2;refine ⟨h',?_⟩;generalize encI (d::t)=z at *;simp only [esc,c0,a1,l1,cz,hFi,s1,hFs,hBi,hP,hq,hC,ew,fE,w1];exact ih
def A6L (d:Int) (t:List Int):List Int:=if 0<=d/\d<=5 then d::gY d t (C4 d) else 0::zI 32
def C4C {d:Int} {t:List Int} {h:A9} (ht:t.length=32):A7J [.a (encI (d::t))] h=A4 (.a (encI (A6L d t)),h):=by
 have key:∀ N,32<N->∀ g,∃ g',A7e N [.a (encI (d::t))] g=A4 (.a (encI (A6L d t)),g'):=by
  intro N hN g;have hB:=F6 (d:=d) ht;have hz:(encI (0::zI 32)).length=33:=F6 (d:=0) K4;have hM:=λh=>cD (d:=d) (h:=h) ht
  have hD:=λh=>aC (d:=d) (t:=t) (h:=h)
  have l0:(encI (d::t))[0]?=A4 (.i .i64 d):=rfl;have haf:E7 (encI (0::zI 32)) []=A4 (encI (0::zI 32)):=rfl;rw [B82,B2c];unfold A6L;by_cases c:0<=d/\d<=5
  ·rw [if_pos c];have hd:=C9F c.1 c.2;rw [hd] at hD;have ef:E7 (encI (0::zI 32)) [(0,1,iV d)]=A4 (encI (d::zI 32)):=by
    have e1:(0+1<=(encI (0::zI 32)).length):=by rw [hz];omega
    simp only [E7,cells?];rw [if_pos ⟨rfl,e1⟩];rfl
   have hz2:(encI (d::zI 32)).length=33:=F6 (d:=d) K4;obtain ⟨h',e⟩:=C0o (g:=g) (d:=d) (t:=t) (q:=N) ht (C4 d) 0 N (g++[rT (encI (d::t)),rT (encI (0::zI 32)),rT (encI (d::zI 32))]) (by omega) (by have:=Q5 d;omega)
    (by have:=(Low.refl (h:=g++[rT (encI (d::t)),rT (encI (0::zI 32))]) (D9x _)).new [rT (encI (d::zI 32))];simpa using this) (by rw [D0Y];simp)
   refine ⟨h',?_⟩;generalize encI (d::zI 32)=z2 at *;generalize encI (0::zI 32)=z at *;generalize encI (d::t)=y at *;simp only [esc,esh,Nat.reduceAdd,hB,hz,l0,hM,hD,ef,hz2];exact e
  ·rw [if_neg c];have cd:¬ d=((bK d:Nat):Int):=by unfold bK;omega
   generalize encI (0::zI 32)=z at *;generalize encI (d::t)=y at *;exact ⟨_,by simp only [esc,esh,Nat.reduceAdd,hB,hz,l0,hD,cd,haf]<;>rfl⟩
 obtain ⟨g',e⟩:=key (h.length+33) (by omega) (ro h);exact B5f e (by simp)
def B6k (d:Int) (t:List Int):Bool:=decide (0<=d)&&(decide (d<=5)&&decide (A6L d t=d::t))
def C6m {d:Int} {t:List Int}:(A6L d t).length=33:=by
 unfold A6L;split
 ·rw [D9G,iZ (Q5 d)]
 ·rw [D9G,K4]
def jH (d:List Int):List UInt8:=(d.map (C6 2)).flatten
def vY {d:List Int}:(jH d).length=2*d.length:=by
 induction d with
 | nil=>rfl
 | cons x d ih=>simp only [jH,E0d,E0l,D9A,N0,D9G] at ih ⊢;omega
def D1n {d:List Int} {x:Int}:jH (d++[x])=jH d++C6 2 x:=by simp [jH]
def magX:List UInt8:=[105,100,120,33]
def A0T (d:Int):List UInt8:=magX++C6 1 d++zeros 27
def vQ {d:Int}:(A0T d).length=32:=by simp [A0T,magX]
def oU (d:Int) (t:List Int):List UInt8:=M8 256 (A0T d++jH t)
def A1V {d:Int} {t:List Int} (ht:t.length=32):(oU d t).length=256:=G1 (by rw [D9A,vQ,vY];omega)
def C8T {n k:Nat} {l:List UInt8} (h:l.length+k<=n):M8 n (l++zeros k)=M8 n l:=by
 unfold M8 zeros;rw [D9C,List.replicate_append_replicate,D9A,D9X]
 congr 2;omega
def okX (d:Int) (t:List Int):Bool:=decide (0<=d)&&(decide (d<=5)&&t.all B1T)
def C3k {d:Int} {t:List Int} {g:A9} {y:List Cell} {q:Nat} (ht:t.length=32) (hyl:y.length=33):∀ e i m:Nat,i+e=32->e<m ->
  ∃ h',B3L q m (pV (g.length+1) 0) (pV (g.length+3) 0) (.a (encI t)) (iV (i:Int)) (g++[rT y,rT (B4 (zeros 256)),rT (B4 magX),rT (B4 (M8 256 (A0T d++jH (t.take i))))]) =
   A4 (.t [.a (B4 (bif (t.drop i).all B1T then oU d t else zeros 256)),.c (.i .i64 (bif (t.drop i).all B1T then 0 else 1))],h')
 | e,i,0,_,hm=>by omega
 | 0,i,m+1,hi,hm=>by
  have e0:i=32:=by omega
  subst e0;have c0:¬ ((32:Nat):Int)<32:=by omega
  have hz:(B4 (zeros 256)).length=256:=by rw [B5];exact zeros_length
  have hB:(B4 (oU d t)).length=256:=by rw [B5];exact A1V ht
  have eB:M8 256 (A0T d++jH t)=oU d t:=rfl;rw [A6m,D9M (by omega),D9K (by omega),List.all_nil,cond_true,cond_true,eB];generalize oU d t=B at *;generalize B4 magX=mg at *;generalize zeros 256=z at *;exact ⟨_,by simp only [esc,esh,c0,hz,hB]<;>rfl⟩
 | e+1,i,m+1,hi,hm=>by
  obtain ⟨h',ih⟩:=C3k (d:=d) (g:=g) (q:=q) ht hyl e (i+1) m (by omega) (by omega);have c0:(i:Int)<32:=by omega
  have hz:(B4 (zeros 256)).length=256:=by rw [B5];exact zeros_length
  have haf:E7 (D9w 256 (Cell.i .u8 0)) []=A4 (D9w 256 (Cell.i .u8 0)):=rfl;rw [F7] at haf;have hx:A2U 32 (.a (encI t)) (iV (i:Int))=A4 (iV t[i]):=by
   rw [B3D (by omega),H0,D9u (by omega)];rfl
  have hF:=λh=>B0K (n:=t[i]) (h:=h)
  have hnl:(A0T d++jH (t.take i)).length=32+2*i:=by rw [D9A,vQ,vY,D91];omega
  have hP0:(M8 256 (A0T d++jH (t.take i))).length=256:=G1 (by omega);have hp:(B4 (M8 256 (A0T d++jH (t.take i)))).length=256:=by rw [B5,hP0]
  have hW:=λh=>U8 (h:=h) (l:=M8 256 (A0T d++jH (t.take i))) hP0 (a:=((32+2*i:Nat):Int)) (w:=2) (v:=t[i])
  have ew:=fQ (l:=A0T d++jH (t.take i)) (a:=32+2*i) (w:=2) (v:=t[i]) (by omega) (by omega) (by omega) (by omega);rw [hnl,E0p,show zeros 0=[] from rfl,D9Q,D9C,<-D1n,<-D9V (by omega)] at ew;rw [show ((2:Nat):Int)=2 from rfl] at ew;rw [ew] at hW;have hp2:(B4 (M8 256 (A0T d++jH (t.take (i+1))))).length=256:=by rw [B5,G1 (by rw [D9A,vQ,vY,D91];omega)]
  have w1:D9B .i64 (2*(i:Int))=((2*i:Nat):Int):=by rw [wrap_i64 (by omega) (by omega)];omega
  have w2:D9B .i64 (32+((2*i:Nat):Int))=((32+2*i:Nat):Int):=by rw [wrap_i64 (by omega) (by omega)];omega
  rw [A6m,F7,D9E (by omega:i<t.length),E0j];generalize M8 256 (A0T d++jH (t.take (i+1)))=P1 at *;generalize M8 256 (A0T d++jH (t.take i))=P0 at *;generalize oU d t=B at *;generalize B4 magX=mg at *;generalize zeros 256=z at *;cases c:B1T t[i] with
  | false =>
   rw [c] at hF;rw [D9L,cond_false,cond_false];exact ⟨_,by simp only [esc,esh,c0,hx,hF,haf,hz]<;>rfl⟩
  | true =>
   rw [c] at hF;rw [D9R];refine ⟨h',?_⟩;simp only [esc,esh,c0,hx,hF,hp,w1,w2,hW,hp2,D9 (show i+1<9223372036854775808 by omega)];exact ih
def B3K {d:Int} {t:List Int} {h:A9} (ht:t.length=32):A1C [.a (encI (d::t))] h=A4 (.t [.a (B4 (bif okX d t then oU d t else zeros 256)),.c (.i .i64 (bif okX d t then 0 else 1))],h):=by
 have key:∀ N,32<N->∀ g,∃ g',A7g N [.a (encI (d::t))] g=A4 (.t [.a (B4 (bif okX d t then oU d t else zeros 256)),.c (.i .i64 (bif okX d t then 0 else 1))],g'):=by
  intro N hN g;have hB:=F6 (d:=d) ht;have hz:(B4 (zeros 256)).length=256:=by rw [B5];exact zeros_length
  have hD:=λh=>aC (d:=d) (t:=t) (h:=h)
  have l0:(encI (d::t))[0]?=A4 (.i .i64 d):=rfl;have haf:E7 (D9w 256 (Cell.i .u8 0)) []=A4 (D9w 256 (Cell.i .u8 0)):=rfl;rw [F7] at haf;rw [B84,F7];unfold okX;by_cases c:0<=d/\d<=5
  ·rw [decide_eq_true c.1,decide_eq_true c.2,D9R,D9R];have hd:=C9F c.1 c.2;rw [hd] at hD;have ef:E7 [Cell.i .u8 0,.i .u8 0,.i .u8 0,.i .u8 0] [(0,1,.c (.i .u8 105)),(1,1,.c (.i .u8 100)),(2,1,.c (.i .u8 120)),(3,1,.c (.i .u8 33))]=A4 (B4 magX):=rfl;have hO:=A9D (data:=magX) (v:=sV (g.length+2) 0 4 1) (nv:=4) (h:=g++[rT (encI (d::t)),rT (B4 (zeros 256)),rT (B4 magX),A7]) (Has.row (rw:=A5) (by simp) rfl (R7 _)) (by decide);rw [C42 (by decide)] at hO;have hM:A6d (g++[rT (encI (d::t)),rT (B4 (zeros 256)),rT (B4 magX),A7]) (sV (g.length+2) 0 4 1)=A4 (sV (g.length+2) 0 4 1):=by simp [A6d]
   have hW:=λh=>U8 (h:=h) (l:=M8 256 magX) (G1 (by decide)) (a:=4) (w:=1) (v:=d)
   have ew:=fQ (l:=magX) (a:=4) (w:=1) (v:=d) (by decide) (by omega) (by omega) (by omega);have e5:magX++zeros (4-magX.length)++C6 1 d=magX++C6 1 d:=rfl;have e6:M8 256 (magX++C6 1 d)=M8 256 (A0T d++jH (t.take 0)):=by
    rw [E0z,show jH []=[] from rfl,D9Q];exact (C8T (by simp [magX])).symm
   rw [e5,e6] at ew;rw [show ((4:Nat):Int)=4 from rfl,show ((1:Nat):Int)=1 from rfl] at ew;rw [ew] at hW;have hp2:(B4 (M8 256 (A0T d++jH (t.take 0)))).length=256:=by rw [B5,G1 (by rw [D9A,vQ,vY,D91];omega)]
   have e7:D3 (g++[rT (encI (d::t)),rT (B4 (zeros 256)),rT (B4 magX),rT (B4 (M8 256 (A0T d++jH (t.take 0))))]) 32 (pV g.length 1)=A4 (.a (encI t)):=by
    rw [G6];simp only [List.getElem?_cons_zero,Option.join_some,ldN,D9H];rw [if_pos ⟨by rw [hB];omega,rfl⟩];have:(encI (d::t)).drop 1=encI t:=rfl;rw [this,D9M (by rw [C1];omega)]
   obtain ⟨h',e⟩:=C3k (d:=d) (t:=t) (g:=g) (q:=N) ht hB 32 0 N (by omega) hN;rw [D9O] at e;generalize M8 256 (A0T d++jH (t.take 0))=P1 at *;generalize M8 256 magX=P2 at *;generalize oU d t=B at *;generalize B4 magX=mg at *;generalize zeros 256=z at *;generalize encI (d::t)=y at *;refine ⟨h',?_⟩;simp only [esc,esh,Nat.reduceAdd,hB,hz,l0,hD,ef,hM,hO,hW,hp2,e7,show g.length+2+1=g.length+3 from rfl];exact e
  ·have cd:¬ d=((bK d:Nat):Int):=by unfold bK;omega
   have ec:(decide (0<=d)&&(decide (d<=5)&&t.all B1T))=A6:=by
    by_cases c1:0<=d
    ·rw [decide_eq_false (show ¬ d<=5 by omega)];simp
    ·rw [decide_eq_false c1];rfl
   rw [ec,cond_false,cond_false];generalize zeros 256=z at *;generalize encI (d::t)=y at *;exact ⟨_,by simp only [esc,esh,Nat.reduceAdd,hB,hz,l0,hD,cd,haf]<;>rfl⟩
 obtain ⟨g',e⟩:=key (h.length+33) (by omega) (ro h);refine B5i e ?_;cases okX d t<;>simp
def getD (b:List UInt8):Int:=fieldN b 4 1
def D6D (b:List UInt8) (i:Nat):Int:=fieldN b (32+2*i) 2
def O6 (b:List UInt8) (n:Nat):List Int:=(D90 n).map (D6D b)++zI (32-n)
def A1T {b:List UInt8} {n:Nat} (hn:n<=32):(O6 b n).length=32:=by simp [O6,zI];omega
def D02 {b:List UInt8} {k:Nat} (hk:k<32):O6 b (k+1)=(O6 b k).set k (D6D b k):=by
 unfold O6;have e:zI (32-k)=0::zI (32-(k+1)):=by
  unfold zI;rw [show 32-k=(32-(k+1))+1 by omega,D92]
 rw [e,D96 _ _ (by simp),List.range_succ,E0h,D9C];simp
def D2q {b:List UInt8} {a w:Nat} (h:a+w<=256) (hw:1<=w) (hw4:w<=4):((atN b (a:Int) w:Nat):Int)=fieldN b a w:=by
 unfold atN fieldN;rw [if_pos ⟨by omega,S7.2 (by omega)⟩];simp only [D9N]
def B4o (t:List Int) (n e:Nat):Bool:=(E0g n e).all λi=>decide (toX t i=0)
def O0 (b:List UInt8):Bool:=okX (getD b) (O6 b 32)&&(decide (oU (getD b) (O6 b 32)=b)&&B4o (O6 b 32) (C4 (getD b)) (32-C4 (getD b)))
def D3a {b:List UInt8} {d:Int} {t:List Int} {ix iz q:Nat} {h:A9} (ht:t.length=32) (hx:rd h ix=rT (encI (d::t))) (hz:rd h iz=rT (encI (0::zI 32))):∀ e i m:Nat,i+e=32->e<m ->
  ∃ h',B3J q m (pV iz 0) (pV ix 0) (iV (i:Int)) h=A4 (.t [.a (encI (bif B4o t i e then d::t else 0::zI 32)),.c (.i .i64 (bif B4o t i e then 0 else 14))],h')
 | e,i,0,_,hm=>by omega
 | 0,i,m+1,hi,hm=>by
  have e0:i=32:=by omega
  subst e0;have c0:¬ ((32:Nat):Int)<32:=by omega
  have hX:=F6 (d:=d) ht;have hZ:(encI (0::zI 32)).length=33:=F6 (d:=0) K4;have s1:=C9 (h:=h) (id:=ix) hx hX;have s2:=storeAll (h:=h) (id:=iz) (xs:=encI (d::t)) hz hZ hX;have s3:=C9 (h:=h.set iz (rT (encI (d::t)))) (id:=iz) (D1 (D7 hz)) hX;have er:B4o t 32 0=A5:=rfl;rw [A6j,er,cond_true,cond_true];generalize encI (d::t)=y at *;exact ⟨_,by simp only [esc,c0,s1,s2,s3]<;>rfl⟩
 | e+1,i,m+1,hi,hm=>by
  obtain ⟨h',ih⟩:=D3a (b:=b) (q:=q) ht hx hz e (i+1) m (by omega) (by omega);have c0:(i:Int)<32:=by omega
  have hZ:(encI (0::zI 32)).length=33:=F6 (d:=0) K4;have a1:=adX (id:=ix) (i:=i) (by omega);have l1:=ldX (h:=h) (id:=ix) hx ht (i:=i) (by omega);have haf:E7 (encI (0::zI 32)) []=A4 (encI (0::zI 32)):=rfl;have s2:=storeAll (h:=h) (id:=iz) (xs:=encI (0::zI 32)) hz hZ hZ;have s3:=C9 (h:=h.set iz (rT (encI (0::zI 32)))) (id:=iz) (D1 (D7 hz)) hZ;have er:B4o t i (e+1)=(decide (toX t i=0)&&B4o t (i+1) e):=by unfold B4o;rw [List.range'_succ,E0j]
  rw [A6j,er,B2c];by_cases c:toX t i=0
  ·rw [decide_eq_true c,D9R];rw [c] at l1;generalize encI (0::zI 32)=z at *;exact ⟨h',by simp only [esc,c0,a1,l1,D9 (show i+1<9223372036854775808 by omega)];exact ih⟩
  ·rw [decide_eq_false c,D9L,cond_false,cond_false];generalize encI (0::zI 32)=z at *;exact ⟨_,by simp only [esc,c0,a1,l1,c,haf,s2,s3]<;>rfl⟩
def D29 {b:List UInt8} {g:A9} {q:Nat} (hb:b.length=256) (hq:32<q):∀ e i m:Nat,i+e=32->e<m ->
  ∃ h',B3I q m (pV g.length 0) (pV (g.length+1) 0) (pV (g.length+2) 0) (iV (i:Int)) (g++[rT (B4 b),rT (encI (0::zI 32)),rT (encI (getD b::O6 b i))]) =
   A4 (.t [.a (encI (bif O0 b then getD b::O6 b 32 else 0::zI 32)),.c (.i .i64 (bif O0 b then 0 else 14))],h')
 | e,i,0,_,hm=>by omega
 | 0,i,m+1,hi,hm=>by
  have e0:i=32:=by omega
  subst e0;have c0:¬ ((32:Nat):Int)<32:=by omega
  have hB:(B4 b).length=256:=by rw [B5,hb]
  have ht:=A1T (b:=b) (n:=32) (D9x _);have hX:=F6 (d:=getD b) ht;have hZ:(encI (0::zI 32)).length=33:=F6 (d:=0) K4;have hz0:(D9w 256 (Cell.i .u8 0)).length=256:=D9X;have hP:=λh=>B3K (d:=getD b) (t:=O6 b 32) (h:=h) ht
  have hM:=λh=>cD (d:=getD b) (h:=h) ht
  have D3h:=Q5 (getD b);have haf:E7 (encI (0::zI 32)) []=A4 (encI (0::zI 32)):=rfl;unfold O0;rw [A6i,B2c];cases co:okX (getD b) (O6 b 32) with
  | false =>
   rw [co] at hP;simp only [cond_false] at hP;have hzz:(B4 (zeros 256)).length=256:=by rw [B5];exact zeros_length
   rw [D9L,cond_false,cond_false];generalize encI (0::zI 32)=z at *;generalize encI (getD b::O6 b 32)=y at *;generalize D9w 256 (Cell.i .u8 0)=zz at *;generalize zeros 256=zzz at *;exact ⟨_,by simp only [esc,esh,Nat.reduceAdd,c0,hX,hP,hz0,hzz,haf,hZ,show decide ((1:Int)=0)=A6 from rfl]<;>rfl⟩
  | true =>
   rw [co] at hP;simp only [cond_true] at hP;rw [D9R];have L8:=A1V (d:=getD b) ht;have hI:(B4 (oU (getD b) (O6 b 32))).length=256:=by rw [B5,L8]
   have hE:=C5y (n:=256) L8 hb;by_cases ce:oU (getD b) (O6 b 32)=b
   ·rw [decide_eq_true ce,D9R];rw [decide_eq_true ce] at hE;obtain ⟨h',e⟩:=D3a (b:=b) (d:=getD b) (t:=O6 b 32) (ix:=g.length+2) (iz:=g.length+1) (q:=q) (h:=g++[rT (B4 b),rT (encI (0::zI 32)),rT (encI (getD b::O6 b 32)),rT (B4 (oU (getD b) (O6 b 32)))]) ht (by simp) (by simp) (32-C4 (getD b)) (C4 (getD b)) q (by omega) (by omega);refine ⟨h',?_⟩;generalize B4o (O6 b 32) (C4 (getD b)) (32-C4 (getD b))=R at *;generalize oU (getD b) (O6 b 32)=I at *;generalize getD b::O6 b 32=Y at *;generalize encI (0::zI 32)=z at *;generalize D9w 256 (Cell.i .u8 0)=zz at *;simp only [esc,esh,Nat.reduceAdd,c0,hX,hP,hz0,hI,hB,hE,hM];exact e
   ·rw [decide_eq_false ce,D9L,cond_false,cond_false];rw [decide_eq_false ce] at hE;generalize oU (getD b) (O6 b 32)=I at *;generalize encI (0::zI 32)=z at *;generalize encI (getD b::O6 b 32)=y at *;generalize D9w 256 (Cell.i .u8 0)=zz at *;exact ⟨_,by simp only [esc,esh,Nat.reduceAdd,c0,hX,hP,hz0,hI,hB,hE,haf,hZ]<;>rfl⟩
 | e+1,i,m+1,hi,hm=>by
  obtain ⟨h',ih⟩:=D29 (g:=g) (q:=q) hb hq e (i+1) m (by omega) (by omega);have c0:(i:Int)<32:=by omega
  have hB:(B4 b).length=256:=by rw [B5,hb]
  have ht:=A1T (b:=b) (n:=i) (by omega);have hX:=F6 (d:=getD b) ht;have hA:=λh=>kU (h:=h) hb (a:=((32+2*i:Nat):Int)) (w:=2)
  have ea:=D2q (b:=b) (a:=32+2*i) (w:=2) (by omega) (by omega) (by omega);rw [show ((2:Nat):Int)=2 from rfl] at ea;rw [ea] at hA;have w1:D9B .i64 (2*(i:Int))=((2*i:Nat):Int):=by rw [wrap_i64 (by omega) (by omega)];omega
  have w2:D9B .i64 (32+((2*i:Nat):Int))=((32+2*i:Nat):Int):=by rw [wrap_i64 (by omega) (by omega)];omega
  have a1:=adX (id:=g.length+2) (i:=i) (by omega);have hs:(encI (getD b::O6 b i)).set (1+i) (.i .i64 (fieldN b (32+2*i) 2))=encI (getD b::O6 b (i+1)):=by rw [C6g,D02 (by omega)];rfl
  have T1:1+i<(encI (getD b::O6 b i)).length:=by rw [hX];omega
  rw [A6i];generalize O0 b=G at *;generalize getD b::O6 b 32=Y at *;generalize encI (getD b::O6 b (i+1))=y1 at *;generalize encI (getD b::O6 b i)=y at *;generalize encI (0::zI 32)=z at *;refine ⟨h',?_⟩;simp only [esc,esh,c0,hB,w1,w2,hA,a1,T1,hs,D9 (show i+1<9223372036854775808 by omega)];exact ih
def B3H {b:List UInt8} {h:A9} (hb:b.length=256):A1B [.a (B4 b)] h=A4 (.t [.a (encI (bif O0 b then getD b::O6 b 32 else 0::zI 32)),.c (.i .i64 (bif O0 b then 0 else 14))],h):=by
 have key:∀ N,32<N->∀ g,∃ g',A7f N [.a (B4 b)] g=A4 (.t [.a (encI (bif O0 b then getD b::O6 b 32 else 0::zI 32)),.c (.i .i64 (bif O0 b then 0 else 14))],g'):=by
  intro N hN g;have hB:(B4 b).length=256:=by rw [B5,hb]
  have hZ:(encI (0::zI 32)).length=33:=F6 (d:=0) K4;have hA:=λh=>kU (h:=h) hb (a:=4) (w:=1)
  have ea:=D2q (b:=b) (a:=4) (w:=1) (by omega) (by omega) (by omega);rw [show ((4:Nat):Int)=4 from rfl,show ((1:Nat):Int)=1 from rfl] at ea;rw [ea] at hA;have ef:E7 (encI (0::zI 32)) [(0,1,iV (fieldN b 4 1))]=A4 (encI (getD b::O6 b 0)):=by
   have e1:(0+1<=(encI (0::zI 32)).length):=by rw [hZ];omega
   simp only [E7,cells?];rw [if_pos ⟨rfl,e1⟩];rfl
  have hX:=F6 (d:=getD b) (A1T (b:=b) (n:=0) (by omega));obtain ⟨h',e⟩:=D29 (g:=g) (q:=N) hb hN 32 0 N (by omega) hN;rw [B83,B2c];generalize O0 b=G at *;generalize getD b::O6 b 32=Y at *;generalize encI (getD b::O6 b 0)=y at *;generalize encI (0::zI 32)=z at *;exact ⟨h',by simp only [esc,esh,Nat.reduceAdd,hB,hZ,hA,ef,hX];exact e⟩
 obtain ⟨g',e⟩:=key (h.length+33) (by omega) (ro h);refine B5g e ?_;cases O0 b<;>simp
def qP (t:List Int) (i:Nat):Bool:=!decide (toX t i=0)&&tK t i
def J0 (t:List Int) (k:Nat):List Int:=((D90 k).filter (qP t)).map (toX t)
def A9o {t:List Int} {k:Nat}:J0 t (k+1)=J0 t k++(if qP t k=A5 then [toX t k] else []):=by
 unfold J0;rw [List.range_succ,List.filter_append,E0h,E0H];by_cases c:qP t k=A5<;>simp [c]
def oI (t:List Int) (k:Nat):(J0 t k).length<=k:=by
 unfold J0;rw [List.length_map];exact D93 (E0m _ _) (by simp)
def A5o {d:Int} {t:List Int} {g:A9} {n q:Nat} (ht:t.length=32) (hn:n<=32):∀ (e i m:Nat) (h:A9) (id:Nat),i+e=n->e<m->Low (g++[rT (encI (d::t))]).length (g++[rT (encI (d::t))]) h->(g++[rT (encI (d::t))]).length<=id->rd h id=rT (encI (J0 t i)) ->
  ∃ v h',tM q m (pV g.length 0) (sV id 0 (J0 t i).length 1) (iV (n:Int)) (iV (i:Int)) h=A4 (v,h')/\Out g.length h' v 1 (J0 t n).length (encI (J0 t n))
 | e,i,0,h,id,_,hm,_,_,_=>by omega
 | 0,i,m+1,h,id,hi,hm,hlow,hid,hr=>by
  have e0:i=n:=by omega
  subst e0;have c0:¬ (i:Int)<i:=by omega
  rw [D9A] at hid;rw [xO];exact ⟨_,_,by simp only [esc,c0]<;>rfl,by rw [C1];omega,_,rfl,by omega,hr⟩
 | e+1,i,m+1,h,id,hi,hm,hlow,hid,hr=>by
  have c0:(i:Int)<n:=by omega
  have hB:=F6 (d:=d) ht;have hrd:rd h g.length=rT (encI (d::t)):=hlow.rd (by simp);have s1:=C9 (h:=h) (id:=g.length) (cs:=encI (d::t)) hrd hB;have a1:=adX (id:=g.length) (i:=i) (by omega);have l1:=ldX (h:=h) (id:=g.length) hrd ht (i:=i) (by omega);have hFs:=λh=>A8G (d:=d) (t:=t) (i:=i) (h:=h) ht (by omega)
  have w1:=D9 (show i+1<9223372036854775808 by omega);have hul:=oI t i;rw [xO];have skip:qP t i=A6->∃ v h',tM q m (pV g.length 0) (sV id 0 (J0 t i).length 1) (iV (n:Int)) (iV ((i+1:Nat):Int)) h=A4 (v,h')/\Out g.length h' v 1 (J0 t n).length (encI (J0 t n)):=by
   intro c;have hu:J0 t (i+1)=J0 t i:=by rw [A9o,c];simp
   have:=A5o (q:=q) ht hn e (i+1) m h id (by omega) (by omega) hlow hid (by rw [hu];exact hr);rw [hu] at this;exact this
  by_cases cz:toX t i=0
  ·obtain ⟨v,h',f1,f2⟩:=skip (by unfold qP;rw [decide_eq_true cz];rfl);rw [cz] at l1;refine ⟨v,h',?_,f2⟩;generalize encI (d::t)=z at *;simp only [esc,c0,a1,l1,lW,w1];exact f1
  ·cases cs:tK t i with
   | false =>
    obtain ⟨v,h',f1,f2⟩:=skip (by unfold qP;rw [cs,Bool.and_false]);rw [cs] at hFs;refine ⟨v,h',?_,f2⟩;generalize encI (d::t)=z at *;simp only [esc,c0,a1,l1,cz,s1,hFs,lW,w1];exact f1
   | true =>
    rw [cs] at hFs;have cb:qP t i=A5:=by unfold qP;rw [cs,decide_eq_false cz];rfl
    have hu:J0 t (i+1)=J0 t i++[toX t i]:=by rw [A9o,if_pos cb]
    obtain ⟨h1,b1,b2,b3,b4,b5⟩:=push (ys:=[.i .i64 (toX t i)]) (sz:=1) (n:=(J0 t i).length) hlow hr (by rw [C1];omega) hid rfl (by omega) (by omega);have he:encI (J0 t i)++[.i .i64 (toX t i)]=encI (J0 t (i+1)):=by rw [hu];simp [encI]
    rw [he] at b2;obtain ⟨v,h',f1,f2⟩:=A5o (q:=q) ht hn e (i+1) m h1 (h.length+1) (by omega) (by omega) b3 b4 b2;have hl1:(J0 t (i+1)).length=(J0 t i).length+1:=by rw [hu];simp
    rw [hl1] at f1;have ef:E7 [o0] [(0,1,iV (toX t i))]=A4 [.i .i64 (toX t i)]:=rfl;refine ⟨v,h',?_,f2⟩;generalize encI (d::t)=z at *;simp only [esc,c0,a1,l1,cz,s1,hFs,ef,b1,lW,w1];exact f1
def kL {d:Int} {t:List Int} {h:A9} (ht:t.length=32):nA [.a (encI (d::t))] h=A4 (sV h.length 0 (J0 t (C4 d)).length 1,h++[rT (encI (J0 t (C4 d)))]):=by
 have key:∀ N,32<N->∀ g,∃ v g',wM N [.a (encI (d::t))] g=A4 (v,g')/\Out g.length g' v 1 (J0 t (C4 d)).length (encI (J0 t (C4 d))):=by
  intro N hN g;have hB:=F6 (d:=d) ht;have hM:=λh=>cD (d:=d) (h:=h) ht
  have hm:=Q5 d;obtain ⟨v,g',f1,f2⟩:=A5o (g:=g) (d:=d) (q:=N) ht hm (C4 d) 0 N (g++[rT (encI (d::t)),rT [],rT []]) (g.length+2) (by omega) (by omega)
   (by have:=(Low.refl (h:=g++[rT (encI (d::t))]) (D9x _)).new [rT [],rT []];simpa using this) (by simp) (by simp [J0,encI])
  rw [show J0 t 0=[] from rfl] at f1;rw [B08];refine ⟨v,g',?_,f2⟩;generalize encI (d::t)=z at *;simp only [esc,esh,Nat.reduceAdd,hB,hM] at f1 ⊢;exact f1
 obtain ⟨v,g',e,ho⟩:=key (h.length+33) (by omega) (ro h);exact A9X e (by simpa [G5] using ho) (by simp)
def D3u (h:Nat) (b:Int):Nat:=if b<1 then 0 else if 32<=b then h else h%2 ^ b.toNat
def C8L {x:Nat} {b:Int} {h:A9} (hx:x<4294967296):B5m [.c (.i .u32 (x:Int)),iV b] h=A4 (iV (D3u x b:Nat),h):=by
 have key:∀ g,∃ g',B4Z 0 [.c (.i .u32 (x:Int)),iV b] g=A4 (iV (D3u x b:Nat),g'):=by
  intro g;rw [C34];unfold D3u;by_cases c1:b<1
  ·rw [if_pos c1];exact ⟨_,by simp only [esc,c1]<;>rfl⟩
  ·rw [if_neg c1];have w1:D9B .i64 (x:Int)=(x:Int):=wrap_i64 (by omega) (by omega);by_cases c2:32<=b
   ·rw [if_pos c2];exact ⟨_,by simp only [esc,c1,c2,w1]<;>rfl⟩
   ·rw [if_neg c2];obtain ⟨k,rfl⟩:∃ k:Nat,b=k:=⟨b.toNat,by omega⟩;rw [D9N];have w2:=B6r (k:=k) (by omega);have hp:2 ^ k<=2 ^ 31:=Nat.pow_le_pow_right (by omega) (by omega);have hp0:0<2 ^ k:=Nat.pow_pos (by omega);have e1:K6 .shl (.c (.i .u32 1)) (.c (.i .u64 (k:Int)))=A4 (.c (.i .u32 ((2 ^ k:Nat):Int))):=by
     rw [B3f (by omega)];have h1:E0J (k:Int).toNat (IntKind.u32).bits=k:=by
      have:(IntKind.u32).bits=32:=rfl;rw [this,D9N];exact E0F (by omega)
     rw [h1,Int.one_mul];have e:(2:Int) ^ k=((2 ^ k:Nat):Int):=by simp
     rw [e];generalize 2 ^ k=y at hp hp0 ⊢;rw [wrap_u32 (by omega) (by omega)]
    have w3:D9B .u32 (((2 ^ k:Nat):Int)-1)=((2 ^ k-1:Nat):Int):=by rw [wrap_u32 (by omega) (by omega)];omega
    have e2:=D4H (a:=x) (b:=2 ^ k-1) hx (by omega);rw [Nat.and_two_pow_sub_one_eq_mod] at e2;have hm:x%2 ^ k<2 ^ k:=Nat.mod_lt _ hp0;have w4:D9B .i64 ((x%2 ^ k:Nat):Int)=((x%2 ^ k:Nat):Int):=wrap_i64 (by omega) (by omega);generalize 2 ^ k-1=y at *;generalize x%2 ^ k=z at *;exact ⟨_,by simp only [esc,c1,c2,w2,e1,w3,e2,w4]<;>rfl⟩
 obtain ⟨g',e⟩:=key (ro h);exact B9u e rfl
def A8E {d:Int} {t:List Int} {x:Nat} {h:A9} (ht:t.length=32) (hx:x<4294967296):uO [.a (encI (d::t)),.c (.i .u32 (x:Int))] h=A4 (iV (x%C4 d:Nat),h):=by
 have key:∀ g,∃ g',A2q 0 [.a (encI (d::t)),.c (.i .u32 (x:Int))] g=A4 (iV (x%C4 d:Nat),g'):=by
  intro g;have hB:=F6 (d:=d) ht;have hD:=λh=>aC (d:=d) (t:=t) (h:=h)
  have hL:=λh=>C8L (x:=x) (b:=(bK d:Nat)) (h:=h) hx
  have e:D3u x (bK d:Nat)=x%C4 d:=by
   unfold D3u C4;have:=A5v d;rw [D9N];by_cases c:((bK d:Nat):Int)<1
   ·have:bK d=0:=by omega
    rw [if_pos c,this];simp [Nat.mod_one]
   ·rw [if_neg c,if_neg (by omega)]
  rw [e] at hL;rw [B4R];generalize encI (d::t)=y at *;exact ⟨_,by simp only [esc,esh,hB,hD,hL]<;>rfl⟩
 obtain ⟨g',e⟩:=key (ro h);exact B1l e rfl
def A1W (D:Dev) (n k:Int) (d:List Int):Bool:=decide (k=2)&&N9 D.length n (d.getD 0 0)&&O0 (blk D (d.getD 0 0))
def A8D (D:Dev) (n k:Int) (d:List Int):List Int:=bif A1W D n k d then getD (blk D (d.getD 0 0))::O6 (blk D (d.getD 0 0)) 32 else 0::zI 32
def uQ (b:List UInt8):(O6 b 32).length=32:=by simp [O6,zI]
def C3g (D:Dev) (n k:Int) (d:List Int):∃ x t,A8D D n k d=x::t/\t.length=32:=by
 unfold A8D;cases A1W D n k d with
 | false=>exact ⟨_,_,rfl,K4⟩
 | true=>exact ⟨_,_,rfl,uQ _⟩
def B7o (D:Dev) (n k:Int) (d:List Int):(encI (A8D D n k d)).length=33:=by
 obtain ⟨x,t,e,h⟩:=C3g D n k d;rw [e,C1];simp [h]
def B0C {D:Dev} {n m k l s p:Int} {d:List Int} {f:Cell} {h:A9} (hD:okD D) (hd:d.length=7) (hv:IsView h f D) :
  yN [.a (vwC D.length n m f),.a (D4 k l s p d)] h=A4 (.t [.a (encI (A8D D n k d)),.c (.b (A1W D n k d))],h):=by
 have key:∀ g,IsView g f D->∃ g',A4N 0 [.a (vwC D.length n m f),.a (D4 k l s p d)] g=A4 (.t [.a (encI (A8D D n k d)),.c (.b (A1W D n k d))],g'):=by
  intro g hv;have l3:=B4C (b:=D.length) (n:=n) (m:=m) (f:=f);have l4:=B4D (b:=D.length) (n:=n) (m:=m) (f:=f);have i0:(D4 k l s p d)[0]?=A4 (.i .i64 k):=rfl;have i4:(D4 k l s p d)[4]?=A4 (.i .i64 (d.getD 0 0)):=by
   have:(D4 k l s p d)[4]?=(encI d)[0]? := rfl;rw [this,H0,D9u (by omega),D9z,D9u (by omega)];rfl
  have ad:∀ q,I5 6 1 (pV q 4) (iV 0)=A4 (pV q 4):=λq=>rfl
  have hz:(encI (0::zI 32)).length=33:=F6 (d:=0) K4;have ef:E7 (encI (0::zI 32)) []=A4 (encI (0::zI 32)):=rfl;have n12:¬ (14:Int)=0:=by decide
  rw [B7R,B2c];unfold A8D A1W;by_cases c1:k=2
  ·have hI:=λh=>cY (b:=D.length) (n:=n) (m:=m) (i:=d.getD 0 0) (h:=h)
   cases c2:N9 D.length n (d.getD 0 0) with
   | false =>
    simp only [c2] at hI;simp only [Bool.and_false,D9L,cond_false];generalize vwC D.length n m f=V at *;generalize D4 k l s p d=I at *;generalize encI (0::zI 32)=z at *;exact ⟨_,by simp only [esc,esh,Nat.reduceAdd,eq_self,i0,c1,l3,ad,i4,hI,hz,ef]<;>rfl⟩
   | true =>
    simp only [c2] at hI;have hB:=N1 (n:=n) (m:=m) (no:=d.getD 0 0) (h:=g++[rT (vwC D.length n m f),rT (D4 k l s p d),rT (encI (0::zI 32))]) hD (hv.more _);have hG:=λh=>B3H (h:=h) (J3 hD (i:=d.getD 0 0))
    have hX:(encI (getD (blk D (d.getD 0 0))::O6 (blk D (d.getD 0 0)) 32)).length=33:=F6 (uQ _);rw [decide_eq_true c1,D9R,D9R];cases c3:O0 (blk D (d.getD 0 0)) with
    | false =>
     simp only [c3,cond_false] at hG;rw [cond_false];generalize encI (getD (blk D (d.getD 0 0))::O6 (blk D (d.getD 0 0)) 32)=x at *;generalize B4 (blk D (d.getD 0 0))=y at *;generalize vwC D.length n m f=V at *;generalize D4 k l s p d=I at *;generalize encI (0::zI 32)=z at *;exact ⟨_,by simp only [esc,esh,Nat.reduceAdd,eq_self,i0,c1,l3,l4,ad,i4,hI,hB,hG,hz,ef,n12]<;>rfl⟩
    | true =>
     simp only [c3,cond_true] at hG;rw [cond_true];generalize encI (getD (blk D (d.getD 0 0))::O6 (blk D (d.getD 0 0)) 32)=x at *;generalize B4 (blk D (d.getD 0 0))=y at *;generalize vwC D.length n m f=V at *;generalize D4 k l s p d=I at *;generalize encI (0::zI 32)=z at *;exact ⟨_,by simp only [esc,esh,Nat.reduceAdd,eq_self,i0,c1,l3,l4,ad,i4,hI,hB,hG,hz,hX,ef]<;>rfl⟩
  ·rw [decide_eq_false c1,D9L,D9L,cond_false];generalize vwC D.length n m f=V at *;generalize D4 k l s p d=I at *;generalize encI (0::zI 32)=z at *;exact ⟨_,by simp only [esc,esh,Nat.reduceAdd,eq_self,i0,c1,hz,ef]<;>rfl⟩
 obtain ⟨g',e⟩:=key (ro h) hv.ro;exact B2Q e (by simp [Val.flat,Cell.flat])
def vC (D:Dev) (n k:Int) (d:List Int):List Int:=bif A1W D n k d then (J0 (O6 (blk D (d.getD 0 0)) 32) (C4 (getD (blk D (d.getD 0 0))))).filter (N9 D.length n) else []
def B1I {D:Dev} {n m:Int} {f:Cell} {g:A9} {p q sid:Nat} {L:List Int} (h1:rd g p=rT (vwC D.length n m f)) (hL:L.length<=32):∀ (e i M id:Nat) (h:A9) (l:List Int),i+e=L.length->e<M->l.length<=i->Low g.length g h->g.length<=id->id≠sid->rd h sid=rT (encI L)->rd h id=rT (encI l) ->
  ∃ v' h',A6f q M (pV p 0) (sV id 0 l.length 1) (sV sid 0 L.length 1) (iV (L.length:Int)) (iV (i:Int)) h=A4 (v',h')/\Out g.length h' v' 1 (l++(L.drop i).filter (N9 D.length n)).length (encI (l++(L.drop i).filter (N9 D.length n)))
 | e,i,0,id,h,l,_,hm,_,_,_,_,_,_=>by omega
 | 0,i,M+1,id,h,l,hi,hm,hl,hlow,hid,Z5,hs,hr=>by
  have e0:i=L.length:=by omega
  subst e0;have c0:¬ ((L.length:Nat):Int)<(L.length:Nat):=by omega
  rw [A0N,D9K (D9x _),List.filter_nil,D9Q];exact ⟨_,_,by simp only [esc,c0]<;>rfl,by rw [C1,Nat.mul_one],id,rfl,hid,hr⟩
 | e+1,i,M+1,id,h,l,hi,hm,hl,hlow,hid,Z5,hs,hr=>by
  have L8:i<L.length:=by omega
  have c0:(i:Int)<(L.length:Nat):=by omega
  have ad:E5 1 (sV sid 0 L.length 1) (iV (i:Int))=A4 (pV sid i):=by rw [D8 L8];simp
  have l1:B8 h (pV sid i)=A4 (iV L[i]):=B9 hs (by rw [H0,D9u L8];rfl) rfl;have fa:V8 (pV p 0) 0=A4 (pV p 0):=rfl;have l3:D3 h 3 (pV p 0)=A4 (.a (J8 D.length n m)):=by rw [T2 (hlow.rd h1) (by simp [vwC]) rfl];rfl
  have hI:=cY (b:=D.length) (n:=n) (m:=m) (i:=L[i]) (h:=h);have w1:=D9 (show i+1<9223372036854775808 by omega);rw [A0N,D9E L8];cases c:N9 D.length n L[i] with
  | false =>
   rw [c] at hI;obtain ⟨v',h',f1,f2⟩:=B1I (q:=q) h1 hL e (i+1) M id h l (by omega) (by omega) (by omega) hlow hid Z5 hs hr;rw [List.filter_cons_of_neg (by rw [c];simp)];refine ⟨v',h',?_,f2⟩;simp only [E4,H7,c0,decide_true,fD,ad,l1,fa,l3,hI,dT,A0M,P6,w1];exact f1
  | true =>
   rw [c] at hI;have ef:E7 [o0] [(0,1,iV L[i])]=A4 (encI [L[i]]):=rfl;obtain ⟨h2,a1,a2,a3,a4⟩:=B6f (n:=l.length) (sz:=1) (ys:=encI [L[i]]) hr (by rw [C1,Nat.mul_one]) rfl (by omega) (by omega);rw [<-vI] at a2;have el:(l++[L[i]]).length=l.length+1:=by simp
   have T1:=D7 hs;obtain ⟨v',h',f1,f2⟩:=B1I (q:=q) h1 hL e (i+1) M (h.length+1) h2 (l++[L[i]]) (by omega) (by omega) (by rw [el];omega) (hlow.trans (a4 _ hid (by have:=hlow.2.1;omega))) (by have:=hlow.2.1;omega) (by omega) (a3 _ _ (Ne.symm Z5) hs) a2;rw [List.filter_cons_of_pos (by rw [c])];rw [D9C,List.singleton_append] at f2;rw [el] at f1;refine ⟨v',h',?_,f2⟩;simp only [E4,H7,c0,decide_true,fD,ad,l1,fa,l3,hI,ef,a1,A0M,P6,w1];exact f1
def B8q {D:Dev} {n m k l s p:Int} {d:List Int} {f:Cell} {h:A9} (hD:okD D) (hd:d.length=7) (hv:IsView h f D) :
  A0t [.a (vwC D.length n m f),.a (D4 k l s p d)] h=A4 (sV h.length 0 (vC D n k d).length 1,h++[rT (encI (vC D n k d))]):=by
 have key:∀ g,IsView g f D->∃ v g',A0h 33 [.a (vwC D.length n m f),.a (D4 k l s p d)] g=A4 (v,g')/\Out g.length g' v 1 (vC D n k d).length (encI (vC D n k d)):=by
  intro g hv;have hIl:(D4 k l s p d).length=11:=by simp [D4,C1,hd]
  have l11:ldN (rT (D4 k l s p d)) 0 11=A4 (.a (D4 k l s p d)):=L9 hIl;have l4:=B4D (b:=D.length) (n:=n) (m:=m) (f:=f);have hz:(encI (0::zI 32)).length=33:=F6 (d:=0) K4;have hX:=B7o D n k d;have hI:=B0C (n:=n) (m:=m) (k:=k) (l:=l) (s:=s) (p:=p) (h:=g++[rT (vwC D.length n m f),rT (D4 k l s p d),rT []]) hD hd (hv.more _);rw [B2y,B2c];cases c:A1W D n k d with
  | false =>
   rw [c] at hI;have eb:vC D n k d=[]:=by unfold vC;rw [c];rfl
   rw [eb];generalize encI (A8D D n k d)=x at *;generalize encI (0::zI 32)=z at *;refine ⟨sV (g.length+4) 0 0 1,g++[rT (vwC D.length n m f),rT (D4 k l s p d),rT [],rT x,rT []],?_,rfl,g.length+4,rfl,by omega,by simp [encI]⟩;generalize vwC D.length n m f=V at *;generalize D4 k l s p d=I at *;simp only [esc,esh,Nat.reduceAdd,l4,l11,hI,hz,hX]
  | true =>
   rw [c] at hI;have eb:vC D n k d=(J0 (O6 (blk D (d.getD 0 0)) 32) (C4 (getD (blk D (d.getD 0 0))))).filter (N9 D.length n):=by unfold vC;rw [c];rfl
   have ex:A8D D n k d=getD (blk D (d.getD 0 0))::O6 (blk D (d.getD 0 0)) 32:=by unfold A8D;rw [c];rfl
   rw [ex] at hI hX;have hB:=λh=>kL (d:=getD (blk D (d.getD 0 0))) (h:=h) (uQ (blk D (d.getD 0 0)))
   have hBl:=oI (O6 (blk D (d.getD 0 0)) 32) (C4 (getD (blk D (d.getD 0 0))));have hml:=Q5 (getD (blk D (d.getD 0 0)));rw [eb];generalize J0 (O6 (blk D (d.getD 0 0)) 32) (C4 (getD (blk D (d.getD 0 0))))=L at *;generalize encI (getD (blk D (d.getD 0 0))::O6 (blk D (d.getD 0 0)) 32)=x at *;generalize encI (0::zI 32)=z at *;obtain ⟨v',h',f1,f2⟩:=B1I (D:=D) (n:=n) (m:=m) (f:=f) (g:=g++[rT (vwC D.length n m f),rT (D4 k l s p d),rT [],rT x]) (p:=g.length) (q:=33) (sid:=g.length+5) (L:=L) (by simp) (by omega) L.length 0 33 (g.length+4) (g++[rT (vwC D.length n m f),rT (D4 k l s p d),rT [],rT x,rT [],rT (encI L)]) [] (by omega) (by omega) (by simp)
    (by
     have:=(Low.refl (h:=g++[rT (vwC D.length n m f),rT (D4 k l s p d),rT [],rT x]) (D9x _)).new [rT [],rT (encI L)];simpa using this) (by simp) (by omega) (by simp) (by simp [encI])
   rw [D9U,D9O] at f2;rw [D95] at f1;refine ⟨v',h',?_,f2.1,?_⟩
   ·generalize vwC D.length n m f=V at *;generalize D4 k l s p d=I at *;simp only [esc,esh,Nat.reduceAdd,l4,l11,hI,hz,hX,hB];exact f1
   ·obtain ⟨id,e,hb,hr⟩:=f2.2;exact ⟨id,e,by simp at hb;omega,hr⟩
 obtain ⟨v,g',e,ho⟩:=key (ro h) hv.ro;exact B1j e (by simpa [G5] using ho) (by simp)
section
variable (n m m2:Nat) (a0 a1 x0 x1 x2 x3 x4 x6 x7 x8 x9 x10 x18 x19 x21 x22:Val) (h:A9)
def jW:FD A8:=⟨px 0X11201024bf2e053a04b49218011d201500001722401b1a195b027a1a17a4e787a777a7014b0220385e173901a18d15238f30412742150307024313401215f42006051105b72c035d5b41c2013011d201500622401b6193b02481a74870101b6192b02381a73870101b18191c9051e1a01e18a71e701501205b740284f42031201042,[.c (.s [46]),.c (.s [46,46]),.c (.i .u8 0),.c (.i .u8 47)],[.idxS (.t 25) (.t 26),.idxS (.t 30) (.t 31)],[.tmp 2],[]⟩
def B2D:=jW.R
def B0O:AtH:=jW.lj 0 n [m] [x0,x21,x22]
def B3b:=tT [⟨2,3,B0O⟩]
def B71:=mR B2D jW B3b n [a0] h
def A4d:=mL jW B3b 0 n [m] [x0,x21,x22] h
def A4A:=jW.K Tryz.func243
def yS:=jW.S
def B8g:SOk A8 243 yS:=A4A.sok
def B2Z:G3 B2D yS:=A4A.flat
def nW:FD A8:=⟨px 0X113026e3966a393d1c37111102723cf2b052a02218022a185e1392d0384e1710502482e07182df604123c42150307024513401215942006051105b7134f4d11c2013022a1381392d06905b71d051961192011cf3002c3961e11e39184711101722410321819022d4218f50010377031b42031e4c11942111e21b250182,[],[.idxS (.t 24) (.t 25)],[.cellN 2 25,.tmp 3],[E1 yS A4A]⟩
def A7l:=nW.R
def B32:AtH:=nW.lj 0 n [m] [x0,x2,x4,x18,x19]
def B6O:=tT [⟨2,5,B32⟩]
def B89:=mR A7l nW B6O n [a0] h
def A6s:=mL nW B6O 0 n [m] [x0,x2,x4,x18,x19] h
def A6Y:=nW.K Tryz.func244
def A1E:=nW.S
def B9v:SOk A8 244 A1E:=A6Y.sok
def B5o:G3 A7l A1E:=A6Y.flat
def uG:FD A8:=⟨px 0X1113df20683d0302011d12b20275001a22401b18192684e6a39683c4e39683c0110323e2e07791100722df12cf23961e61b11828062c2c2bf29001033a2a0181f1d31c201328f5013803805022a1d051b4001a2011d12b2027500001b2241c90521e1b023942031af400680411e1391818c41942112b103a3342,[.c (.s [])],[.slA 25 1 (.t 1) (A4 (.v (.c (.i .i64 1)))) (A4 (.t 14)),.b2s (.t 15),.eqA A5 (D9w 25 (.i .u8)) (.t 25) (.t 26)],[.tmp 2,.tmp 3],[E1 A1E A6Y]⟩
def A2x:=uG.R
def B40:=mR A2x uG (tT []) n [a0] h
def B0g:=uG.K Tryz.func237
def A2N:=uG.S
def B5p:SOk A8 237 A2N:=B0g.sok
def B1w:G3 A2x A2N:=B0g.flat
def A1i:FD A8:=⟨px 0X17f4004121a171400062340130182,[],[],[.tmp 4],[]⟩
def B6H:=A1i.R
def B88:=mR B6H A1i (tT []) n [a0,a1] h
def B6y:=A1i.K Tryz.func242
def A7N:=A1i.S
def B5n:G3 B6H A7N:=B6y.flat
def jX:FD A8:=⟨px 0X159f113df40301e1904218d1a1f18d7018d1e04118d4f7c18d7718d7010612029716815e3d01e0194600000031b33cf70583c02183bf6050024c131824042035e1040411d3a172c066b422bf18001a021901a204722c128128171a452150702404121a11a1b033b42030406053131af1160029719041f1d18231140230182,[],[],[.tmp 4,.tmp 5],[E1 A7N B6y]⟩
def A4W:=jX.R
def A28:AtH:=jX.lj 0 n [m] [x0,x1,x6,x7]
def B3c:=tT [⟨2,4,A28⟩]
def B72:=mR A4W jX B3c n [a0,a1] h
def A4e:=mL jX B3c 0 n [m] [x0,x1,x6,x7] h
def B2t:=jX.K Tryz.func213
def yT:=jX.S
def B20:G3 A4W yT:=B2t.flat
def dP:FD A8:=⟨px 0X14df203f4d0250000003724cf1a056c02218022a4611d7a16e17a151823811385e16a103850024e15a3807019032ff30041392b1013113e4c14612017243a2c0159423132bf12af6011a280182a2c29f1e0042032e1381f0181f1d1821df500441811d31c4215011a07024413401212f420060511029718032d2b291c201314a174212481042,[.c (.s [])],[.slL 1 (.t 24) (A4 (.t 26)) A7,.slL 1 (.t 28) (A4 (.t 29)) A7,.copy 1 (.t 27) (.t 30)],[.tmp 2],[E1 yT B2t]⟩
def A7m:=dP.R
def B34:AtH:=dP.lj 0 n [m] [x3,x8,x9,x10]
def C4W:AtH:=dP.lj 1 n [m] [x3,x8,x9,x10]
def A7Y:=tT [⟨2,4,B34⟩,⟨2,4,C4W⟩]
def B9a:=mR A7m dP A7Y n [a0] h
def A6u:=mL dP A7Y 0 n [m] [x3,x8,x9,x10] h
def A6t:=mJ dP A7Y 1 n [m] [x3,x8,x9,x10] h
def A6Z:=dP.K Tryz.func167
def A1F:=dP.S
def B9w:SOk A8 167 A1F:=A6Z.sok
def B8h:A4D A7m A1F:=A6Z.out
end
def vL (c:UInt8):Bool:=!(decide ((c.toNat:Int)=0)||decide ((c.toNat:Int)=47))
def U4 (s:List UInt8):Bool:=!(decide ((s.length:Int)<1)||decide (24<(s.length:Int))||decide (s=[46])||decide (s=[46,46]))&&s.all vL
def aZ {s:List UInt8} (h:U4 s=A5):1<=s.length/\s.length<=24:=by
 unfold U4 at h;simp at h;omega
def B9X (s:List UInt8) (hs:s.length<9223372036854775807) (n:Nat) (h:A9):∀ d i m:Nat,i+d=s.length->d<m ->
  B0O n m (.c (.s s)) (iV s.length) (iV i) h=A4 (iV (bif (s.drop i).all vL then 0 else 3),h)
 | d,i,0,_,hm=>by omega
 | 0,i,m+1,hi,hm=>by
  have c0:¬ ((i:Int)<s.length):=by omega
  rw [A4d,show s.drop i=[] from D9K (by omega)];simp only [esc,c0,List.all_nil]
 | d+1,i,m+1,hi,hm=>by
  have h1:(i:Int)<s.length:=by omega
  have h2:i<s.length:=by omega
  have ih:=B9X s hs n h d (i+1) m (by omega) (by omega);rw [A4d,D9E h2,E0j];by_cases c1:(s[i].toNat:Int)=0
  ·have f:vL s[i]=A6:=by unfold vL;rw [decide_eq_true c1];rfl
   simp only [esc,h1,B3E h2,c1,f,D9L]
  ·by_cases c2:(s[i].toNat:Int)=47
   ·have f:vL s[i]=A6:=by unfold vL;rw [decide_eq_true c2];simp
    simp only [esc,h1,B3E h2,c2,f,D9L,Int.reduceEq]
   ·have f:vL s[i]=A5:=by unfold vL;rw [decide_eq_false c1,decide_eq_false c2];rfl
    simp only [esc,h1,B3E h2,c1,c2,f,D9R,D9 (show i+1<9223372036854775808 by omega)];exact ih
def B9W {s:List UInt8} (hs:s.length<9223372036854775807) (h:A9):yS [.c (.s s)] h=A4 (iV (bif U4 s then 0 else 3),h):=by
 refine B2Z (n:=s.length+1) (h2:=ro h) ?_ rfl;rw [B71];have hl:=B9X s hs (s.length+1) (ro h) s.length 0 (s.length+1) (by omega) (by omega);rw [D9O] at hl;unfold U4;by_cases c1:(s.length:Int)<1
 ·simp only [esc,c1,Bool.true_or,D9L]
 ·by_cases c2:(24:Int)<s.length
  ·simp only [esc,c1,c2,Bool.true_or,D9L,Bool.or_true]
  ·by_cases c3:s=[46]
   ·subst c3;simp only [esc];rfl
   ·by_cases c4:s=[46,46]
    ·subst c4;simp only [esc];rfl
    ·simp only [esc,c1,c2,c3,c4,Bool.or_self,D9R];exact hl
def A00 (s:List UInt8) (i:Nat):List UInt8:=UInt8.ofNat s.length::(s.take i++zeros (24-i))
def dG (s:List UInt8):List UInt8:=bif U4 s then A00 s s.length else zeros 25
def A5I {s:List UInt8} {i:Nat} (hi:i<=s.length) (hs:s.length<=24):(A00 s i).length=25:=by
 unfold A00;rw [D9G,D9A,zeros_length,D91];omega
def kV {s:List UInt8}:(dG s).length=25:=by
 unfold dG;cases hf:U4 s with
 | false=>exact zeros_length
 | true=>exact A5I (D9x _) (aZ hf).2
def D1u {s:List UInt8} {i:Nat} (hi:i<s.length) (hs:s.length<=24):(A00 s i).set (1+i) s[i]=A00 s (i+1):=by
 unfold A00;rw [Nat.add_comm 1 i,List.set_cons_succ];refine congrArg (UInt8.ofNat s.length :: ·) ?_;have hlen:(List.take i s).length=i:=by simp;omega
 rw [D96 _ _ (by omega),hlen,E0p,D9V hi,D9C];refine congrArg (List.take i s ++ ·) ?_;have e:24-i=(24-(i+1))+1:=by omega
 rw [e];unfold zeros;rw [D92,E0w];rfl
def C3w (s:List UInt8) (hs:s.length<=24) (h:A9) (c2:List Cell) (l2:c2.length=25) (n:Nat):∀ d i m:Nat,i+d=s.length->d<m ->
  B32 n m (.c (.s s)) (pV h.length 0) (pV (h.length+1) 0) (iV s.length) (iV i) (h++[rT c2,rT (B4 (A00 s i))]) =
   A4 (.t [.a (B4 (A00 s s.length)),.c o0],h++[rT (B4 (A00 s s.length)),rT (B4 (A00 s s.length))])
 | d,i,0,_,hm=>by omega
 | 0,i,m+1,hi,hm=>by
  have h1:¬ ((i:Int)<s.length):=by omega
  have e:i=s.length:=by omega
  subst e;have hl:(B4 (A00 s s.length)).length=25:=by rw [B5];exact A5I (D9x _) hs
  rw [A6s];simp only [esc,esh,h1,hl,l2]
 | d+1,i,m+1,hi,hm=>by
  have h1:(i:Int)<s.length:=by omega
  have h3:i<s.length:=by omega
  have hl:(B4 (A00 s i)).length=25:=by rw [B5];exact A5I (by omega) hs
  have ih:=C3w s hs h c2 l2 n d (i+1) m (by omega) (by omega);have e1:D9B .i64 (1+(i:Int))=((1+i:Nat):Int):=by rw [wrap_i64 (by omega) (by omega)];omega
  have ea:I5 25 1 (pV (h.length+1) 0) (iV ((1+i:Nat):Int))=A4 (pV (h.length+1) (1+i)):=by rw [K3 (by omega)];simp
  have ho:1+i<(B4 (A00 s i)).length:=by omega
  rw [A6s];simp only [esc,esh,h1,e1,B3E h3,ea,ho,iY,D1u h3 hs,D9 (show i+1<9223372036854775808 by omega)];exact ih
def C98 {s:List UInt8} (hs:s.length<9223372036854775807) (h:A9) :
  A1E [.c (.s s)] h=A4 (.t [.a (B4 (dG s)),.c (.i .i64 (bif U4 s then 0 else 3))],h):=by
 have key:∀ g,∃ g',A7l (s.length+1) [.c (.s s)] g=A4 (.t [.a (B4 (dG s)),.c (.i .i64 (bif U4 s then 0 else 3))],g'):=by
  intro g;have hz:=F7 25;have hl:(B4 (zeros 25)).length=25:=by rw [B5];exact zeros_length
  rw [B89,hz];unfold dG;cases hf:U4 s with
  | false =>
   generalize zeros 25=Z at *;exact ⟨_,by simp only [esc,esh,B9W hs,hf,hl,Int.reduceEq]<;>rfl⟩
  | true =>
   have D8X:=(aZ hf).2;have e0:(B4 (zeros 25)).set 0 (.i .u8 (D9B .u8 s.length))=B4 (A00 s 0):=by
    rw [wrap_u8 (by omega) (by omega)];have:((s.length:Nat):Int)=((UInt8.ofNat s.length).toNat:Int):=by rw [UInt8.toNat_ofNat'];omega
    rw [this,iY];rfl
   have:=C3w s D8X g (B4 (zeros 25)) hl (s.length+1) s.length 0 (s.length+1) (by omega) (by omega);rw [<-e0] at this;generalize zeros 25=Z at *;have a0:I5 25 1 (pV (g.length+1) 0) (iV 0)=A4 (pV (g.length+1) 0):=rfl;have ho:0<(B4 Z).length:=by omega
   exact ⟨_,by simp only [esc,esh,B9W hs,hf,a0,ho];exact this⟩
 obtain ⟨g',e⟩:=key (ro h);exact B5o e (by simp)
def eZ (l:List UInt8):Option (List UInt8) :=
 if (l.headD 0).toNat<=24 then
  if U4 ((l.drop 1).take (l.headD 0).toNat)=A5/\dG ((l.drop 1).take (l.headD 0).toNat)=l then A4 ((l.drop 1).take (l.headD 0).toNat) else A7
 else A7
def D10 {l:List UInt8} (hl:l.length=25) (h:A9) :
  A2N [.a (B4 l)] h=A4 (.t [.c (.s ((eZ l).getD [])),.c (.i .i64 (if (eZ l).isSome then 0 else 3))],h):=by
 have key:∀ g,∃ g',A2x 0 [.a (B4 l)] g=A4 (.t [.c (.s ((eZ l).getD [])),.c (.i .i64 (if (eZ l).isSome then 0 else 3))],g'):=by
  intro g;obtain ⟨x,r,rfl⟩:∃ x r,l=x::r:=by
   cases l with
   | nil=>simp at hl
   | cons x r=>exact ⟨x,r,rfl⟩
  have hx:=x.toNat_lt;rw [B40];have a0:I5 25 1 (pV g.length 0) (iV 0)=A4 (pV g.length 0):=rfl;have l0:(B4 (x::r))[0]?=A4 (.i .u8 x.toNat):=rfl;have e1:D9B .i64 (x.toNat:Int)=x.toNat:=wrap_i64 (by omega) (by omega);have gX:(B4 (x::r)).length=25:=by rw [B5,hl]
  unfold eZ;simp only [List.headD_cons,List.drop_succ_cons,D9O];by_cases c1:x.toNat<=24
  ·rw [if_pos c1];have c1':¬ (24:Int)<x.toNat:=by omega
   have e2:D9B .i64 (1+(x.toNat:Int))=((1+x.toNat:Nat):Int):=by rw [wrap_i64 (by omega) (by omega)];omega
   have e3:=D7r (h:=g) (l:=[rT (B4 (x::r))]) (k:=0) (n:=25) (a:=1) (b:=1+x.toNat) (cs:=B4 (x::r)) rfl gX (by omega) (by omega);rw [E0D,show 1+x.toNat-1=x.toNat by omega,show ((1:Nat):Int)=1 from rfl] at e3;have hh:Has (g++[rT (B4 (x::r))]) (sV g.length 1 x.toNat 1) 1 x.toNat (B4 (r.take x.toNat)):=Has.part O8 (by omega) (by
    rw [D0N,D0O];simp) (R7 _)
   have hs:(r.take x.toNat).length<9223372036854775807:=by simp;omega
   have hp:=C98 hs (g++[rT (B4 (x::r))]);have hpl:(B4 (dG (r.take x.toNat))).length=25:=by rw [B5,kV]
   have hz:(D9w 25 (Cell.i .u8 0)).length=25:=D9X;have hq:=C5y (l:=dG (r.take x.toNat)) (m:=x::r) kV hl;generalize D9w 25 (Cell.i .u8 0)=z at *;cases hf:U4 (r.take x.toNat) with
   | false =>
    rw [hf] at hp;rw [if_neg (by simp)];exact ⟨_,by simp only [esc,esh,a0,l0,e1,c1',e2,e3,hh.str,hp,hpl,hz,Int.reduceEq,Option.getD_none,E0n,E0v]<;>rfl⟩
   | true =>
    rw [hf] at hp;by_cases c2:dG (r.take x.toNat)=x::r
    ·rw [if_pos ⟨rfl,c2⟩];exact ⟨_,by simp only [esc,esh,a0,l0,e1,c1',e2,e3,hh.str,hp,hpl,hz,gX,hq,decide_eq_true c2,Option.getD_some,D98]<;>rfl⟩
    ·rw [if_neg (λh=>c2 h.2)];exact ⟨_,by simp only [esc,esh,a0,l0,e1,c1',e2,e3,hh.str,hp,hpl,hz,gX,hq,decide_eq_false c2,Option.getD_none,E0n,E0v]<;>rfl⟩
  ·rw [if_neg c1];have c1':(24:Int)<x.toNat:=by omega
   exact ⟨_,by simp only [esc,esh,a0,l0,e1,c1',Option.getD_none,E0n,E0v]<;>rfl⟩
 obtain ⟨g',e⟩:=key (ro h);exact B1w e (by simp)
section
variable (n m m2:Nat) (a0 a1 a2 a3 x0 x1 x2 x3 x4 x6 x7 x11 x16 x17 x18 x34 x35 x36:Val) (h:A9)
def oY:FD A8:=⟨px 0X15f20028962500261400521201042,[],[],[.tmp 2],[]⟩
def A0e:=oY.R
def B2v:=mR A0e oY (tT []) n [a0] h
def pE:=oY.K Tryz.func216
def iI:=oY.S
def A9R:G3 A0e iI:=pE.flat
def xX:FD A8:=⟨px 0X128f203018191889019391a0391e138391f013018195041f1a01f1e11e1f1f0110220103040451f00523103a2342,[],[],[.tmp 2],[cal B8g]⟩
def A4G:=xX.R
def B7K:=mR A4G xX (tT []) n [a0] h
def yI:=xX.K Tryz.func215
def pP:=xX.S
def B2L:G3 A4G pP:=yI.flat
def jO:FD A8:=⟨px 0X139f20041393b143b133b123b113b1051a513e582f0420522ef30041390384a2c041122bf12af23961e41b11a280182a2c29f1e001030403c1f2b19190521df300111a10218213e0692b01c20412850690411a62b1974214a03a2342,[.c (.i .u64 8),.c (.i .u8 0)],[.slA 25 1 (.t 4) A7 A7],[.tmp 2],[cal B9v]⟩
def sR:=jO.R
def A9M:=mR sR jO (tT []) n [a0] h
def kA:=jO.K Tryz.func217
def cO:=jO.S
def A7y:A4D sR cO:=kA.out
def fH:FD A8:=⟨px 0X11b5024f261b826e1c3020135024f260293b31b11622401b2c1901c31ac1a211ac4e28906351ac2f0101ac2f1f1ac72f4881ac3c01ac4e0141ac2f18a21ac3c0101b1819019a4d01319a2f78219a3c0110326c4b0280191d9431000334af22612901a5a0111a102293b190632301037c178488185a3d071192d3533cf13bf18011828063b2c3af38001134e39391c74633301b22ff1b053802218022a28481392d0404c14882d04022e11900201033c11e1e01a181df704121a421503070245131cd012139420060511b012f42031e4c11d42312941b422e319531c2,[],[.b2sN A7 (.t 44),.b2sN A7 (.t 49)],[.cellN 4 2,.tmp 5],[E1 iI pE,cal B5p,E1 vB A3n,E1 pP yI,E1 cO kA,E1 A3B A9g]⟩
def A2m:=fH.R
def A78:AtH:=fH.lj 0 n [m] [x1,x2,x4,x6,x11]
def B0n:=tT [⟨2,5,A78⟩]
def B4K:=mR A2m fH B0n n [a0,a1] h
def A1O:=mL fH B0n 0 n [m] [x1,x2,x4,x6,x11] h
def A2c:=fH.K Tryz.func203
def uN:=fH.S
def B1e:G3 A2m uN:=A2c.flat
def mU:FD A8:=⟨px 0X11b30174221c2a0633903012c133e6318645002231422e253182,[],[],[.tmp 3],[]⟩
def A57:=mU.R
def A0d:=mR A57 mU (tT []) n [a0,a1] h
def A51:=mU.K Tryz.func212
def mY:=mU.Q
def A0o:OfT A57 mY:=A51.of
def N5:FD A8:=⟨px 0X39f7054c022180124301e1904b4d01184b6e02141022c4b6d3e24b3c3e4b74a4b7012c28019692220721ff11ef2262951b11a280181e2c1df1a0042032812a4881b1c191d1b18219f4041218421503070243133d012129420060517011f42422e153182,[],[],[],[E1 uN A2c,lM mY A51]⟩
def rX:=N5.R
def rQ:J9:=N5.E
def qR:AtH:=N5.lj 0 n [m] [x1,x2,x7]
def sA:TT:=⟨rQ,[⟨2,3,qR⟩]⟩
def A2j:=mR rX N5 sA n [a0,a1] h
def lC:=mL N5 sA 0 n [m] [x1,x2,x7] h
def rU:=N5.K Tryz.func150
def fV:=N5.Q
def A2D:OfT rX fV:=rU.of
def tW:FD A8:=⟨px 0X17f201842505204203413ac5e648818301224c174234a03a2342,[],[],[.tmp 2],[lM fV rU]⟩
def uM:=tW.R
def B4H:=mR uM tW (tT []) n [a0] h
def uL:=tW.K Tryz.func165
def fO:=tW.S
def A3u:SOk A8 165 fO:=uL.sok
def B2G:D7B uM fO:=uL.low
def B2H:A4D uM fO:=uL.out
def aU:FD A8:=⟨px 0X11df5003f2a431c000017201b282a22a361e3183182404222840400514552d261c21000301a31742e219753282,[],[],[.tmp 5],[]⟩
def A56:=aU.R
def B5L:AtH:=aU.lj 0 n [] [x3]
def A6a:=tT [⟨1,1,B5L⟩]
def A0c:=mR A56 aU A6a n [a0,a1,a2,a3] h
def xL:=mJ aU A6a 0 n [] [x3] h
def A50:=aU.K Tryz.func151
def fA:=aU.Q
def A0n:OfT A56 fA:=A50.of
def N4:FD A8:=⟨px 0X39f7054c022180124301e1904b4d01184b6e02141022c4b6d3e24b3c3e4b74a4b7012c28019692220721ff11ef2262951b11a280181e2c1df1a0042032812a4881b1c191d1b18219f4041218421503070243133d012129420060517011f42422e153182,[],[],[],[E1 uN A2c,lM fA A50]⟩
def rW:=N4.R
def rP:J9:=N4.E
def qQ:AtH:=N4.lj 0 n [m] [x1,x2,x7]
def rZ:TT:=⟨rP,[⟨2,3,qQ⟩]⟩
def A2i:=mR rW N4 rZ n [a0,a1] h
def lA:=mL N4 rZ 0 n [m] [x1,x2,x7] h
def rS:=N4.K Tryz.func150
def fU:=N4.Q
def A2C:OfT rW fU:=rS.of
def tV:FD A8:=⟨px 0X11cf5011a11c1028361a41a318201b1a116304203461c32af5e1c4881830022322a44c21f422c4c11d42312c4c43a422e419751c2,[],[],[.cellN 4 3,.tmp 5],[lM fU rS]⟩
def A2h:=tV.R
def B4G:=mR A2h tV (tT []) n [a0,a1] h
def uK:=tV.K Tryz.func81
def mA:=tV.S
def B48:SOk A8 81 mA:=uK.sok
def B1c:G3 A2h mA:=uK.flat
def tX:FD A8:=⟨px 0X126488601030785b134b123b112b10419413e4021c01b1042,[.c (.i .u8 98),.c (.i .u8 107),.c (.i .u8 116),.c (.i .u8 33)],[],[.cellN 0 256],[E1 A3D A60]⟩
def A2k:=tX.R
def B4I:=mR A2k tX (tT []) n [] h
def A97:=tX.K Tryz.func214
def A2E:=tX.S
def B1d:G3 A2k A2E:=A97.flat
def bB:FD A8:=⟨px 0X113022f48864f4886e1c3026df4c054a06d49218012d3022f488601c3b37111112722404327f104019e682b41cf22625ff15ef2362c191b11c2801a5e2c5df5900625304018e54f4885a1c1a2b35258f18f264ef7029181b021861a21d4167a7c1823503270245134012119b42016251102974a0319918f18d1c23c15349f2a053e022182784886061a343201336821801235e15e4883b1c501901530268488601c3b37111111105722403f01134a22f1c36b42032ef6f262cf502961b021861a21d4163a3c182150307024613401214f420060511029728034d4b491c2031ff248861c41b001f5c31961192015d30238488601c3b371062243d05202971b033b4203111c21b250182,[],[],[.cellN 2 256,.tmp 3],[E1 A2E A97,E1 pP yI,E1 iI pE,E1 cO kA,E1 A3C A9h,E1 mA uK]⟩
def A4E:=bB.R
def B0u:AtH:=bB.lj 0 n [m] [x0,x2,x4,x16,x17,x18]
def B0v:AtH:=bB.lj 1 n [m] [x2,x4,x34,x35,x36]
def A5h:=tT [⟨2,6,B0u⟩,⟨2,5,B0v⟩]
def B7I:=mR A4E bB A5h n [a0] h
def A3K:=mL bB A5h 0 n [m] [x0,x2,x4,x16,x17,x18] h
def A3L:=mL bB A5h 1 n [m] [x2,x4,x34,x35,x36] h
def B2i:=bB.K Tryz.func171
def A40:=bB.S
def B76:SOk A8 171 A40:=B2i.sok
def B2I:G3 A4E A40:=B2i.flat
def tY:FD A8:=⟨px 0X117023c2601141022d3b4a10402481010371f018020119702282602d3b31c10001722401b6193d042c1a72c70110127163b4203112d61b21d530282,[],[],[.cellN 6 2,.tmp 7],[E1 iI pE]⟩
def A2l:=tY.R
def B4J:=mR A2l tY (tT []) n [a0,a1,a2] h
def A98:=tY.K Tryz.func218
def A2F:=tY.S
def B2K:D7B A2l A2F:=A98.low
def xW:FD A8:=⟨px 0X12ff5004e261428002801632301134821872a018020155023a2602d3b32e100072243018190394d010392f2c2393c01306193d01291a7297011042711b494203112d4c432e319701c2,[],[],[.cellN 4 2,.tmp 5],[E1 pP yI,E1 cO kA,E1 A2F A98]⟩
def A4F:=xW.R
def B7J:=mR A4F xW (tT []) n [a0,a1] h
def B2j:=xW.K Tryz.func172
def A41:=xW.S
def B77:SOk A8 172 A41:=B2j.sok
def B2J:C5u A4F A41:=B2j.tidy
end
def D7n {g:A9} {l l':List (Option Row)} {v:Val} {cs:List Cell} (hl:l'=l++[rT cs]):quiet (g++l) (A4 (v,g++l'))=A4 (v,g++l'):=by
 subst hl;have:=Y7 ((Grows.rfl' (h:=g++l)).new cs) (v:=v);rw [D9C] at this;exact this
def D7m {g:A9} {a:Option Row} {v:Val} {cs:List Cell}:quiet (g++[a]) (A4 (v,g++[a,rT cs]))=A4 (v,g++[a,rT cs]):=D7n rfl
def G8 (k:Nat):Nat:=32+32*k
def nB {k:Nat} {h:A9} (hk:k<7):iI [iV (k:Int)] h=A4 (iV (G8 k:Nat),h):=by
 have key:∀ g,∃ g',A0e 0 [iV (k:Int)] g=A4 (iV (G8 k:Nat),g'):=by
  intro g;have w1:=D9 (show k+1<9223372036854775808 by omega);have w2:D9B .i64 (32*((k+1:Nat):Int))=((G8 k:Nat):Int):=by unfold G8;rw [wrap_i64 (by omega) (by omega)];omega
  rw [B2v];exact ⟨_,by simp only [esc,w1,w2]<;>rfl⟩
 obtain ⟨g',e⟩:=key (ro h);exact A9R e rfl
def C74:List UInt8:=[98,107,116,33]
def hdB:List UInt8:=M8 256 C74
def A0P:hdB.length=256:=G1 (by decide)
def B9S {h:A9}:A2E [] h=A4 (.a (B4 hdB),h):=by
 have key:∀ g,∃ g',A2k 0 [] g=A4 (.a (B4 hdB),g'):=by
  intro g;have hz:(B4 (zeros 256)).length=256:=by rw [B5];exact zeros_length
  have hd:(B4 hdB).length=256:=by rw [B5];exact A0P
  have ef:E7 [Cell.i .u8 0,.i .u8 0,.i .u8 0,.i .u8 0] [(0,1,.c (.i .u8 98)),(1,1,.c (.i .u8 107)),(2,1,.c (.i .u8 116)),(3,1,.c (.i .u8 33))]=A4 (B4 C74):=rfl;have hO:=A9D (data:=C74) (v:=sV (g.length+1) 0 4 1) (nv:=4) (h:=g++[rT (B4 (zeros 256)),rT (B4 C74)]) (Has.row (rw:=A5) (by simp) rfl (R7 _)) (by decide);rw [C42 (by decide),show M8 256 C74=hdB from rfl] at hO;have hM:A6d (g++[rT (B4 (zeros 256)),rT (B4 C74)]) (sV (g.length+1) 0 4 1)=A4 (sV (g.length+1) 0 4 1):=by simp [A6d]
  rw [B4I,F7];generalize hdB=B at *;generalize B4 C74=mg at *;generalize zeros 256=z at *;exact ⟨_,by simp only [esc,esh,ef,hM,hO,hz,hd]<;>rfl⟩
 obtain ⟨g',e⟩:=key (ro h);exact B1d e (by simp)
def A95 (s:List UInt8) (n:Int):Bool:=U4 s&&(decide (1<=n)&&decide (n<=128))
def A2W {s:List UInt8} {n:Int} {h:A9} (hs:s.length<9223372036854775807):pP [.a [.s s,.i .i64 n]] h=A4 (bV (A95 s n),h):=by
 have key:∀ g,∃ g',A4G 0 [.a [.s s,.i .i64 n]] g=A4 (bV (A95 s n),g'):=by
  intro g;have hC:=λh=>B9W hs h
  rw [B7K];unfold A95;cases hf:U4 s with
  | false =>
   rw [hf] at hC;exact ⟨_,by simp only [esc,esh,hC,Int.reduceEq]<;>rfl⟩
  | true =>
   rw [hf] at hC;by_cases c1:1<=n
   ·by_cases c2:n<=128
    ·rw [decide_eq_true c1,decide_eq_true c2];exact ⟨_,by simp only [esc,esh,hC,c1,c2]<;>rfl⟩
    ·rw [decide_eq_true c1,decide_eq_false c2];exact ⟨_,by simp only [esc,esh,hC,c1,c2]<;>rfl⟩
   ·rw [decide_eq_false c1];exact ⟨_,by simp only [esc,esh,hC,c1]<;>rfl⟩
 obtain ⟨g',e⟩:=key (ro h);exact B2L e rfl
def T0 (s:List UInt8) (n:Int):List UInt8:=C6 2 n++dG s++[0,0,0,0,0]
def U2 {s:List UInt8} {n:Int}:(T0 s n).length=32:=by simp [T0,kV]
def qS {s:List UInt8} {n:Int} {h:A9} (hs:s.length<9223372036854775807):cO [.a [.s s,.i .i64 n]] h=A4 (sV h.length 0 32 1,h++[rT (B4 (T0 s n))]):=by
 have key:∀ g,∃ v g',sR 0 [.a [.s s,.i .i64 n]] g=A4 (v,g')/\Out g.length g' v 1 32 (B4 (T0 s n)):=by
  intro g;have e4:K6 .shr (iV n) (.c (.i .u64 8))=A4 (iV (n/256)):=B9F (by omega);have wm:∀ a:Int,D9B .u8 a=a%256:=λa=>by
   simp only [D9B,IntKind.bits,IntKind.signed,D9L];rfl
  have b0:D9B .u8 n=((byI n 0).toNat:Int):=by rw [wm,B8F];simp
  have b1:D9B .u8 (n/256)=((byI n 1).toNat:Int):=by rw [wm,B8F];simp
  have ef:E7 [Cell.i .u8 0,.i .u8 0] [(0,1,.c (.i .u8 (byI n 0).toNat)),(1,1,.c (.i .u8 (byI n 1).toNat))]=A4 (B4 (C6 2 n)):=rfl;have ef5:E7 [Cell.i .u8 0,.i .u8 0,.i .u8 0,.i .u8 0,.i .u8 0] [(0,1,.c (.i .u8 0)),(1,1,.c (.i .u8 0)),(2,1,.c (.i .u8 0)),(3,1,.c (.i .u8 0)),(4,1,.c (.i .u8 0))]=A4 (B4 [0,0,0,0,0]):=rfl;have hP:=λh=>C98 hs h
  have hpl:(B4 (dG s)).length=25:=by rw [B5];exact kV
  have hz:(B4 (zeros 25)).length=25:=by rw [B5];exact zeros_length
  have hA:=A72 (h:=g++[rT [.s s,.i .i64 n],rT [],rT (B4 (C6 2 n)),rT (B4 (dG s))]) (id:=g.length+2) (jd:=g.length+3) (n:=2) (m:=25) (sz:=1) (cs:=B4 (C6 2 n)) (ys:=B4 (dG s)) (rw:=A5) (by simp) (by simp [B5]) (by simp) (by rw [hpl]) rfl (by omega) (by omega);simp only [D9A,D9G,D95,D9T,D9C,D99,D9U,A5R,List.set_cons_succ,E0w,Nat.reduceAdd,<-A1S] at hA;have D8L:(B4 (C6 2 n++dG s)).length=27*1:=by rw [B5,D9A,N0,kV]
  have hA2:=A72 (h:=g++[rT [.s s,.i .i64 n],rT [],A7,rT (B4 (dG s)),rT (B4 (C6 2 n++dG s)),rT (B4 [0,0,0,0,0])]) (id:=g.length+4) (jd:=g.length+5) (n:=27) (m:=5) (sz:=1) (cs:=B4 (C6 2 n++dG s)) (ys:=B4 [0,0,0,0,0]) (rw:=A5) (by simp) D8L (by simp) rfl rfl (by omega) (by omega);simp only [D9A,D9G,D95,D9T,D9C,D99,D9U,A5R,List.set_cons_succ,E0w,Nat.reduceAdd,<-A1S] at hA2;rw [<-D9C (C6 2 n),show C6 2 n++dG s++[0,0,0,0,0]=T0 s n from rfl] at hA2;rw [A9M,F7];refine ⟨sV (g.length+6) 0 32 1,g++[rT [.s s,.i .i64 n],rT [],A7,rT (B4 (dG s)),A7,rT (B4 [0,0,0,0,0]),rT (B4 (T0 s n))],?_,by rw [B5,U2],g.length+6,rfl,by omega,?_⟩
  ·generalize T0 s n=E at *;generalize C6 2 n++dG s=Q at *;generalize B4 [0,0,0,0,0]=F at *;generalize B4 (dG s)=P at *;generalize B4 (C6 2 n)=B2 at *;generalize zeros 25=z at *;simp only [esc,esh,Nat.reduceAdd,b0,e4,b1,ef,hP,hpl,hz,hA,ef5,hA2]
  ·simp
 obtain ⟨v,g',e,ho⟩:=key (ro h);exact A7y e (by simpa [G5] using ho) (by simp)
def dJ (b:List UInt8) (k:Nat):List UInt8:=(b.drop (G8 k)).take 32
def nameB (b:List UInt8) (k:Nat):List UInt8:=(b.drop (G8 k+2)).take 25
def qO (b:List UInt8) (k:Nat):Int:=fieldN b (G8 k) 2
abbrev Ent:=List UInt8 × Int
def isE (b:List UInt8) (k:Nat) (s:List UInt8):Bool:=A95 s (qO b k)&&decide (T0 s (qO b k)=dJ b k)
def M4 (b:List UInt8) (k:Nat):Option Ent:=(eZ (nameB b k)).bind λs=>if isE b k s=A5 then A4 (s,qO b k) else A7
def R0:Option Ent->List Cell
 | none=>[.s [],o0]
 | some e=>[.s e.1,.i .i64 e.2]
def C5a {b:List UInt8} {k:Nat} (hb:b.length=256) (hk:k<7):(dJ b k).length=32:=by simp [dJ,G8,hb];omega
def B31 {b:List UInt8} {k:Nat} (hb:b.length=256) (hk:k<7):(nameB b k).length=25:=by simp [nameB,G8,hb];omega
def A5X {l s:List UInt8} (h:eZ l=A4 s):U4 s=A5:=by
 unfold eZ at h;split at h
 ·split at h
  ·rename_i hc;cases h;exact hc.1
  ·cases h
 ·cases h
def cpN (l:List UInt8) (i:Nat):List UInt8:=l.take i++zeros (25-i)
def C8h {l:List UInt8} {i:Nat} (hl:l.length=25) (hi:i<=25):(cpN l i).length=25:=by simp [cpN,zeros,hl];omega
def D4X {l:List UInt8} {i:Nat} (hl:l.length=25) (hi:i<25):(cpN l i).set i l[i]=cpN l (i+1):=by
 unfold cpN;have hlen:(List.take i l).length=i:=by simp;omega
 rw [D96 _ _ (by omega),hlen,E0p,D9V (by omega),D9C];refine congrArg (List.take i l ++ ·) ?_;have e:25-i=(25-(i+1))+1:=by omega
 rw [e];unfold zeros;rw [D92,E0w];rfl
def D4W {l:List UInt8} (hl:l.length=25):cpN l 25=l:=by simp [cpN,zeros,D9M,hl]
def D2F {b:List UInt8} {k:Nat}:A6K b (G8 k:Nat) 32=dJ b k:=by
 unfold A6K dJ;rw [if_pos (by omega)];simp
def D4O {b:List UInt8} {k:Nat} (hk:k<7):((atN b (G8 k:Nat) 2:Nat):Int)=qO b k:=by
 unfold atN qO fieldN G8;rw [if_pos ⟨by omega,S7.2 (by omega)⟩];simp only [D9N];rfl
def B9Q {b:List UInt8} {k q:Nat} {g:A9} (hb:b.length=256) (hk:k<7):∀ e i m:Nat,i+e=25->e<m ->
  ∃ h',A78 q m (iV (k:Int)) (pV g.length 0) (pV (g.length+1) 0) (pV (g.length+2) 0) (iV (i:Int)) (g++[rT (B4 b),rT [.s [],o0],rT (B4 (cpN (nameB b k) i))]) =
   A4 (.t [.a (R0 (M4 b k)),.c (.b (M4 b k).isSome)],h')
 | e,i,0,_,hm=>by omega
 | 0,i,m+1,hi,hm=>by
  have e0:i=25:=by omega
  subst e0;have hnl:=B31 hb hk;rw [D4W hnl];have c0:¬ ((25:Nat):Int)<25:=by omega
  have hbl:(B4 b).length=256:=by rw [B5,hb]
  have hnc:(B4 (nameB b k)).length=25:=by rw [B5,hnl]
  have hU:=λh=>D10 hnl h
  have hF:=λh=>nB (h:=h) hk
  have hA:=λh=>kU (h:=h) hb (a:=(G8 k:Nat)) (w:=2)
  rw [D4O hk] at hA;have ef:∀ (s:List UInt8) (n:Int),E7 [Cell.s [],o0] [(0,1,.c (.s s)),(1,1,iV n)]=A4 [.s s,.i .i64 n]:=λ_ _=>rfl
  have ef0:E7 [Cell.s [],o0] []=A4 [.s [],o0]:=rfl;rw [A1O];unfold M4;cases hu:eZ (nameB b k) with
  | none =>
   rw [hu] at hU;simp only [Option.getD_none,E0n,E0v,if_false] at hU;generalize qO b k=n at *;generalize B4 (nameB b k)=z at *;generalize B4 b=y at *;exact ⟨_,by simp only [esc,esh,Nat.reduceAdd,c0,hbl,hnc,hU,hF,hA,ef,ef0,Int.reduceEq,Option.bind_none,R0]<;>rfl⟩
  | some s =>
   rw [hu] at hU;simp only [Option.getD_some,D98,if_true] at hU;have hfs:=(aZ (A5X hu)).2;have hM:=λh=>A2W (s:=s) (n:=qO b k) (h:=h) (by omega)
   rw [D9H];unfold isE;cases hm:A95 s (qO b k) with
   | false =>
    rw [hm] at hM;rw [D9L,if_neg (by simp)];generalize qO b k=n at *;generalize B4 (nameB b k)=z at *;generalize B4 b=y at *;exact ⟨_,by simp only [esc,esh,Nat.reduceAdd,c0,hbl,hnc,hU,hF,hA,ef,ef0,hM,R0]<;>rfl⟩
   | true =>
    rw [hm] at hM;rw [D9R];have hW:=λh=>qS (s:=s) (n:=qO b k) (h:=h) (by omega)
    have tL:=C5a hb hk;have hC:=λh=>A5H (h:=h) hb (a:=(G8 k:Nat)) (n:=32)
    rw [D2F,tL] at hC;have s1:=λ(c0 c1 c2 c3:Option Row)=>Has.str (l:=T0 s (qO b k)) (Has.row (h:=g++[c0,c1,c2,c3,rT (B4 (T0 s (qO b k)))]) (id:=g.length+4) (sz:=1) (n:=32) (rw:=A5) (by simp) (by rw [B5,U2]) (R7 _))
    have s2:=λ(c0 c1 c2 c3 c4:Option Row)=>Has.str (l:=dJ b k) (Has.row (h:=g++[c0,c1,c2,c3,c4,rT (B4 (dJ b k))]) (id:=g.length+5) (sz:=1) (n:=32) (rw:=A5) (by simp) (by rw [B5,tL]) (R7 _))
    by_cases ce:T0 s (qO b k)=dJ b k
    ·rw [if_pos (decide_eq_true ce)];generalize T0 s (qO b k)=E at *;generalize dJ b k=L at *;generalize qO b k=n at *;subst ce;generalize B4 (nameB b k)=z at *;generalize B4 b=y at *;exact ⟨_,by simp only [esc,esh,Nat.reduceAdd,c0,hbl,hnc,hU,hF,hA,ef,ef0,hM,hW,s1,hC,s2,eq_self,decide_true,R0,D98]<;>rfl⟩
    ·rw [if_neg (by rw [decide_eq_true_eq];exact ce)];generalize T0 s (qO b k)=E at *;generalize dJ b k=L at *;generalize qO b k=n at *;generalize B4 (nameB b k)=z at *;generalize B4 b=y at *;exact ⟨_,by simp only [esc,esh,Nat.reduceAdd,c0,hbl,hnc,hU,hF,hA,ef,ef0,hM,hW,s1,hC,s2,ce,R0,E0n]<;>rfl⟩
 | e+1,i,m+1,hi,hm=>by
  obtain ⟨h',ih⟩:=B9Q (q:=q) (g:=g) hb hk e (i+1) m (by omega) (by omega);have hnl:=B31 hb hk;have c0:(i:Int)<25:=by omega
  have hF:=λh=>nB (h:=h) hk
  have hbl:(B4 b).length=256:=by rw [B5,hb]
  have nQ:(B4 (cpN (nameB b k) i)).length=25:=by rw [B5];exact C8h hnl (by omega)
  have T1:i<(B4 (cpN (nameB b k) i)).length:=by omega
  have w1:D9B .i64 (((G8 k:Nat):Int)+2)=((G8 k+2:Nat):Int):=by unfold G8;rw [wrap_i64 (by omega) (by omega)];omega
  have w2:D9B .i64 (((G8 k+2:Nat):Int)+(i:Int))=((G8 k+2+i:Nat):Int):=by unfold G8;rw [wrap_i64 (by omega) (by omega)];omega
  have hj:G8 k+2+i<256:=by unfold G8;omega
  have a1:I5 256 1 (pV g.length 0) (iV ((G8 k+2+i:Nat):Int))=A4 (pV g.length (G8 k+2+i)):=by rw [K3 hj];simp
  have a2:I5 25 1 (pV (g.length+2) 0) (iV (i:Int))=A4 (pV (g.length+2) i):=by rw [K3 (by omega)];simp
  have ei:(nameB b k)[i]'(by omega)=b[G8 k+2+i]'(by omega):=by simp [nameB]
  have l1:(B4 b)[G8 k+2+i]?=A4 (.i .u8 ((nameB b k)[i]'(by omega)).toNat):=by
   rw [ei];simp [B4,hb,hj]
  have hs:(B4 (cpN (nameB b k) i)).set i (.i .u8 ((nameB b k)[i]'(by omega)).toNat)=B4 (cpN (nameB b k) (i+1)):=by rw [iY,D4X hnl (by omega)]
  rw [A1O];refine ⟨h',?_⟩;generalize B4 (cpN (nameB b k) (i+1))=z1 at *;generalize B4 (cpN (nameB b k) i)=z at *;generalize B4 b=y at *;simp only [esc,esh,c0,hF,w1,w2,a1,l1,a2,T1,hs,D9 (show i+1<9223372036854775808 by omega)];exact ih
def D0P {o:Option Ent}:K1 (R0 o)=A5:=by cases o<;>rfl
def A77 {b:List UInt8} {k:Nat} {h:A9} (hb:b.length=256) (hk:k<7):uN [.a (B4 b),iV (k:Int)] h=A4 (.t [.a (R0 (M4 b k)),.c (.b (M4 b k).isSome)],h):=by
 have key:∀ N,25<N->∀ g,∃ g',A2m N [.a (B4 b),iV (k:Int)] g=A4 (.t [.a (R0 (M4 b k)),.c (.b (M4 b k).isSome)],g'):=by
  intro N hN g;obtain ⟨h',e⟩:=B9Q (g:=g) (q:=N) hb hk 25 0 N (by omega) hN;have e0:cpN (nameB b k) 0=zeros 25:=by simp [cpN]
  rw [e0] at e;rw [B4K,F7];generalize zeros 25=z at *;generalize B4 b=y at *;exact ⟨h',by simp only [esc,esh,Nat.reduceAdd];exact e⟩
 obtain ⟨g',e⟩:=key (h.length+26) (by omega) (ro h);exact B1e e (by simp [Val.flat,D0P,Cell.flat])
abbrev Slt:=Nat × Ent
def slC:Option Slt->List Cell
 | none=>[o0,.s [],o0]
 | some x=>[.i .i64 (x.1:Int),.s x.2.1,.i .i64 x.2.2]
def jK {o:Option Slt}:(slC o).length=3:=by cases o<;>rfl
def C7z {o:Option Slt}:K1 (slC o)=A5:=by cases o<;>rfl
def U3 (b nm:List UInt8):Nat->Nat->Option Slt
 | 0,_=>A7
 | e+1,k=>match M4 b k with
  | some x=>if x.1=nm then A4 (k,x) else U3 b nm e (k+1)
  | none=>U3 b nm e (k+1)
def mN {b nm:List UInt8} {e k:Nat} (hx:M4 b k=A7):U3 b nm (e+1) k=U3 b nm e (k+1):=by rw [U3,hx]
def yZ {b nm:List UInt8} {e k:Nat} {n:Int} (hx:M4 b k=A4 (nm,n)):U3 b nm (e+1) k=A4 (k,(nm,n)):=by rw [U3,hx];simp
def mM {b nm s:List UInt8} {e k:Nat} {n:Int} (hx:M4 b k=A4 (s,n)) (Z5:s≠nm):U3 b nm (e+1) k=U3 b nm e (k+1):=by rw [U3,hx];simp [Z5]
def X8 (b nm:List UInt8):Option Slt:=U3 b nm 7 0
def D21 {k n:Int} {s nm:List UInt8} {r1 r2 r3:Nat} {h:A9} (h1:rd h r1=rT [.s nm]) (h3:rd h r3=rT [.b A6]) (Z5:s≠nm) :
  fA [.a [.i .i64 k,.s s,.i .i64 n],pV r1 0,pV r2 0,pV r3 0] h=A4 (bV A5,h++[rT [.i .i64 k,.s s,.i .i64 n]]):=by
 refine A0n (n:=0) ?_;have l1:B8 (h++[rT [.i .i64 k,.s s,.i .i64 n]]) (pV r1 0)=A4 (.c (.s nm)):=B9 (cs:=[.s nm]) (B6 h1) rfl rfl;have l3:B8 (h++[rT [.i .i64 k,.s s,.i .i64 n]]) (pV r3 0)=A4 (bV A6):=B9 (cs:=[.b A6]) (B6 h3) rfl rfl;rw [A0c];simp only [esc,esh,Nat.reduceAdd,l1,Z5,xL,l3]<;>rfl
def D0V {k n:Int} {nm:List UInt8} {c2:List Cell} {r1 r2 r3:Nat} {h:A9} (h1:rd h r1=rT [.s nm]) (h2:rd h r2=rT c2) (hl:c2.length=3) (h3:rd h r3=rT [.b A6]) (h23:r2≠r3) :
  fA [.a [.i .i64 k,.s nm,.i .i64 n],pV r1 0,pV r2 0,pV r3 0] h=A4 (bV A6,((h++[rT [.i .i64 k,.s nm,.i .i64 n]]).set r2 (rT [.i .i64 k,.s nm,.i .i64 n])).set r3 (rT [.b A5])):=by
 refine A0n (n:=0) ?_;have l1:B8 (h++[rT [.i .i64 k,.s nm,.i .i64 n]]) (pV r1 0)=A4 (.c (.s nm)):=B9 (cs:=[.s nm]) (B6 h1) rfl rfl;have s2:=storeAll (h:=h++[rT [.i .i64 k,.s nm,.i .i64 n]]) (id:=r2) (n:=3) (xs:=[.i .i64 k,.s nm,.i .i64 n]) (B6 h2) hl rfl;have h3':rd ((h++[rT [.i .i64 k,.s nm,.i .i64 n]]).set r2 (rT [.i .i64 k,.s nm,.i .i64 n])) r3=rT [.b A6]:=by rw [B7 h23];exact B6 h3
 have s3:=I3 (x:=.b A5) (off:=0) h3' (by simp);have l4:B8 (((h++[rT [.i .i64 k,.s nm,.i .i64 n]]).set r2 (rT [.i .i64 k,.s nm,.i .i64 n])).set r3 (rT [.b A5])) (pV r3 0)=A4 (bV A5):=B9 (cs:=[.b A5]) (D1 (by simpa using D7 h3')) rfl rfl;rw [A0c];have s3:H1 ((h++[rT [.i .i64 k,.s nm,.i .i64 n]]).set r2 (rT [.i .i64 k,.s nm,.i .i64 n])) (pV r3 0) (bV A5)=A4 (((h++[rT [.i .i64 k,.s nm,.i .i64 n]]).set r2 (rT [.i .i64 k,.s nm,.i .i64 n])).set r3 (rT [.b A5])):=s3;simp only [esc,esh,Nat.reduceAdd,l1,s2,s3,xL,l4]<;>rfl
def B5S {b nm:List UInt8} {r0 r1 r2 r3 q:Nat} {B:A9} (hb:b.length=256) (hB1:rd B r1=rT [.s nm]) (hr2:B.length<=r2) (hr3:B.length<=r3) (h23:r2≠r3) (h02:r0≠r2) (h03:r0≠r3):∀ (e k m:Nat) (h:A9),k+e=7->e<m->Low B.length B h ->
  rd h r2=rT (slC A7)->rd h r3=rT [.b A6]->rd h r0=rT (B4 b) ->
  ∃ h',qQ q m (.c (.f 151 [(r1,0),(r2,0),(r3,0)])) (pV r0 0) (iV (k:Int)) h=A4 (.t [],h')/\Low B.length B h'/\rd h' r2=rT (slC (U3 b nm e k))/\rd h' r3=rT [.b (U3 b nm e k).isSome]
 | e,k,0,h,_,hm,_,_,_,_=>by omega
 | 0,k,m+1,h,hk,hm,hlow,h2,h3,h0=>by
  have e0:k=7:=by omega
  subst e0;have c0:¬ ((7:Nat):Int)<7:=by omega
  refine ⟨h,?_,hlow,h2,h3⟩;rw [lA];simp only [esc,c0]<;>rfl
 | e+1,k,m+1,h,hk,hm,hlow,h2,h3,h0=>by
  have c0:(k:Int)<7:=by omega
  have hbl:(B4 b).length=256:=by rw [B5,hb]
  have s1:=C9 (h:=h) (id:=r0) h0 hbl;have hR:=A77 (h:=h) (k:=k) hb (by omega);have w1:=D9 (show k+1<9223372036854775808 by omega);have hcv:∀ (x:Val) (h:A9),qT rP (.c (.f 151 [(r1,0),(r2,0),(r3,0)])) [x] h=fA [x,pV r1 0,pV r2 0,pV r3 0] h:=λ_ _=>Eq.trans rfl rfl
  rw [lA];cases hx:M4 b k with
  | none =>
   rw [hx] at hR;rw [mN hx];obtain ⟨h',f1,f2⟩:=B5S (q:=q) hb hB1 hr2 hr3 h23 h02 h03 e (k+1) m (h++[rT ([.s [],o0])]) (by omega) (by omega) (hlow.new _) (B6 h2) (B6 h3) (B6 h0);refine ⟨h',?_,f2⟩;generalize B4 b=y at *;simp only [esc,esh,Nat.reduceAdd,c0,s1,hR,R0,E0n,w1];exact f1
  | some x =>
   obtain ⟨s,n⟩:=x;rw [hx] at hR;have ef:E7 [o0,.s [],o0] [(0,1,iV (k:Int)),(1,2,.a [.s s,.i .i64 n])]=A4 [.i .i64 (k:Int),.s s,.i .i64 n]:=rfl;have h1':rd (h++[rT [.s s,.i .i64 n]]) r1=rT [.s nm]:=B6 (hlow.rd hB1);by_cases ce:s=nm
   ·subst ce;have hF:=D0V (k:=(k:Int)) (n:=n) h1' (B6 h2) jK (B6 h3) h23;simp only [D9C,D99,D9U] at hF;rw [yZ hx];refine ⟨((h++[rT [.s s,.i .i64 n],rT [.i .i64 (k:Int),.s s,.i .i64 n]]).set r2 (rT [.i .i64 (k:Int),.s s,.i .i64 n])).set r3 (rT [.b A5]),?_,((hlow.new [rT [.s s,.i .i64 n],rT [.i .i64 (k:Int),.s s,.i .i64 n]]).set hr2 _).set hr3 _,?_,?_⟩
    ·generalize B4 b=y at *;simp only [esc,esh,Nat.reduceAdd,c0,s1,hR,R0,D98,ef,hcv,hF]<;>rfl
    ·rw [B7 (Ne.symm h23)];exact D1 (D7 (B6 h2))
    ·exact D1 (by rw [E0c];exact D7 (B6 h3))
   ·have hF:=D21 (k:=(k:Int)) (n:=n) (r2:=r2) h1' (B6 h3) ce;simp only [D9C,D99,D9U] at hF;rw [mM hx ce];obtain ⟨h',f1,f2⟩:=B5S (q:=q) hb hB1 hr2 hr3 h23 h02 h03 e (k+1) m (h++[rT [.s s,.i .i64 n],rT [.i .i64 (k:Int),.s s,.i .i64 n]]) (by omega) (by omega) (hlow.new _) (B6 h2) (B6 h3) (B6 h0);refine ⟨h',?_,f2⟩;generalize B4 b=y at *;simp only [esc,esh,Nat.reduceAdd,c0,s1,hR,R0,D98,ef,hcv,hF,w1];exact f1
def A0E {b nm:List UInt8} {h:A9} (hb:b.length=256):mA [.a (B4 b),.c (.s nm)] h=A4 (.t [.a (slC (X8 b nm)),.c (.b (X8 b nm).isSome)],h):=by
 have key:∀ g,∃ g',A2h 0 [.a (B4 b),.c (.s nm)] g=A4 (.t [.a (slC (X8 b nm)),.c (.b (X8 b nm).isSome)],g'):=by
  intro g;have hbl:(B4 b).length=256:=by rw [B5,hb]
  have emk:A70 151 [pV (g.length+1) 0,pV (g.length+3) 0,pV (g.length+4) 0]=A4 (.c (.f 151 [(g.length+1,0),(g.length+3,0),(g.length+4,0)])):=rfl;obtain ⟨h',f1,f2,f3,f4⟩:=B5S (b:=b) (nm:=nm) (r0:=g.length+5) (r1:=g.length+1) (r2:=g.length+3) (r3:=g.length+4) (q:=8) (B:=g++[rT (B4 b),rT [.s nm],rT (slC A7)]) hb (by simp) (by simp) (by simp) (by omega) (by omega) (by omega) 7 0 8 (g++[rT (B4 b),rT [.s nm],rT (slC A7),rT (slC A7),rT [.b A6],rT (B4 b)]) (by omega) (by omega)
   (by have:=(Low.refl (h:=g++[rT (B4 b),rT [.s nm],rT (slC A7)]) (D9x _)).new [rT (slC A7),rT [.b A6],rT (B4 b)];simpa using this) (by simp) (by simp) (by simp)
  have hS:fU [.a (B4 b),.c (.f 151 [(g.length+1,0),(g.length+3,0),(g.length+4,0)])] (g++[rT (B4 b),rT [.s nm],rT (slC A7),rT (slC A7),rT [.b A6]])=A4 (.t [],h'):=by
   refine A2C (n:=8) ?_;rw [A2i];simp only [esc,esh,Nat.reduceAdd];exact f1
  have hr:rd h' (g.length+2)=rT (slC A7):=by rw [f2.2.2 _ (by simp)];simp
  change rd h' (g.length+3)=rT (slC (X8 b nm)) at f3;change rd h' (g.length+4)=rT [.b (X8 b nm).isSome] at f4;have t1:=C9 (n:=3) f3 jK;have t2:B8 h' (pV (g.length+4) 0)=A4 (bV (X8 b nm).isSome):=B9 (cs:=[.b (X8 b nm).isSome]) f4 rfl rfl;have t3:=storeAll (n:=3) (xs:=slC (X8 b nm)) hr jK jK;have f4':rd (h'.set (g.length+2) (rT (slC (X8 b nm)))) (g.length+4)=rT [.b (X8 b nm).isSome]:=by rw [B7 (by omega)];exact f4
  have t4:B8 (h'.set (g.length+2) (rT (slC (X8 b nm)))) (pV (g.length+4) 0)=A4 (bV (X8 b nm).isSome):=B9 (cs:=[.b (X8 b nm).isSome]) f4' rfl rfl;have t5:=C9 (n:=3) (D1 (x:=rT (slC (X8 b nm))) (D7 hr)) jK;have z0:[o0,.s [],o0]=slC A7:=rfl;rw [B4G,z0];generalize slC (X8 b nm)=Y at *;generalize slC A7=Z at *;generalize (X8 b nm).isSome=S at *;generalize B4 b=y at *;exact ⟨_,by simp only [esc,esh,Nat.reduceAdd,Nat.reduceLT,hbl,emk,hS,t1,t2,t3,t4,t5]<;>rfl⟩
 obtain ⟨g',e⟩:=key (ro h);exact B1c e (by simp [Val.flat,C7z,Cell.flat])
section
variable (n m m2:Nat) (a0 a1 a2 a3 a4 a5 x2 x3 x6 x7 x12 x13 x14 x16 x17 x18 x21 x22 x23:Val) (h:A9)
def uA:FD A8:=⟨px 0X11b13cf1238f6004401482d14a53c13a38060196181a001e32ff1b006223201134e12e492c1c30192f2b00001b301311116032e383a00001f22403f282a024f4221329f128f24961f191b11a28018282c1ff1c0042032c1b182c41d1c192d2b111a2311116063a632e519751c2,[],[],[.tmp 6,.tmp 7,.tmp 8],[E1 yN A4w,E1 A7M B2s,E1 uO A2e]⟩
def A2n:=uA.R
def B4L:=mR A2n uA (tT []) n [a0,a1,a2] h
def A99:=uA.K Tryz.func79
def A2G:=uA.S
def B1g:G3 A2n A2G:=A99.flat
def pA:FD A8:=⟨px 0X11b7026f3601218111c1032b3b04105118c5040188518a5a019020137026f3602b3b31f1110722403f6e4f021a9423134ef14df2362c1b1b11e2801c4d2c4cf3f0042332f1042236817a4481c1b392f2b11d2013702683602b3b35c11001722401b1c1905e4d04215e2f4a5e7035e3c05a5e1f0103f2e2d0197b424132cf12bf12af18021e2811c2801a2a2c29f1d00463033c12e1b182e41e1c1b2d2b2192312b61b63a632e41d1975282,[],[],[.cellN 6 3,.tmp 7],[E1 A2G A99,E1 bS fM,E1 E3 E8,E1 mA uK]⟩
def A0g:=pA.R
def B2w:=mR A0g pA (tT []) n [a0,a1,a2] h
def A6R:=pA.K Tryz.func36
def A0s:=pA.S
def A9V:G3 A0g A0s:=A6R.flat
def oZ:FD A8:=⟨px 0X16f0425e56e15c451825c2a0613901013113e5e14e4531222430181904d4e3c34d3c2e34d3c012829065d446228f11ff2362b181b11c2801a1f2c1ef1a00463033812a1b182a41b1c1a2b29111a2762e11d1b19753382,[],[.eqA A6 ([.i .i64,.i .i64,.i .i64]) (.t 19) (.t 20),.mput A7 (.t 27) (.t 28) (.t 30)],[],[E1 A0s A6R]⟩
def A7b:=oZ.R
def pL:=mR A7b oZ (tT []) n [a0,a1,a2,a3,a4,a5] h
def A6Q:=oZ.K Tryz.func193
def pT:=oZ.Q
def pU:OfT A7b pT:=A6Q.of
def J6:FD A8:=⟨px 0X58f1e056c058492184ff2f05480221801822e5f0400516c501218111c1032b3b0410515c50405855a16a3b01c183af2362c191b031841831d43e42350327024191340121694201625110290123042133813e42a1c65f5d5b1c229f700441811d32842150307024513401213f420060511029042031e1b181e41a1c53d3b3921d263a632e219751c2,[],[],[],[E1 A0t A6S,E1 E3 E8,E1 fO uL,lM pT A6Q]⟩
def uZ:=J6.R
def iE:J9:=J6.E
def sG:AtH:=J6.lj 0 n [m] [x2,x3,x12,x13,x14]
def sH:AtH:=J6.lj 1 n [m,m2] [x2,x3,x7,x12,x13,x14,x21,x22,x23]
def iO:TT:=⟨iE,[⟨2,5,sG⟩,⟨3,9,sH⟩]⟩
def A3t:=mR uZ J6 iO n [a0,a1,a2] h
def A2Y:=mL J6 iO 0 n [m] [x2,x3,x12,x13,x14] h
def A2Z:=mL J6 iO 1 n [m,m2] [x2,x3,x7,x12,x13,x14,x21,x22,x23] h
def uV:=J6.K Tryz.func192
def iM:=J6.Q
def A3y:OfT uZ iM:=uV.of
def jT:FD A8:=⟨px 0X13ff40683f023c0000003723ef2a053803e492183df7001e239020129123e01118102293b1384814c43c13e2e019182df1900441811d32c42150307024513401214f42006051102901132c1f5944d4b4922820023274811e420463031e282c2e43895e2a1b182a41b1c400221af22a561b01a7d31d4224c11b4224a43a422e375182,[],[.mkMap,.look A7 (.c o0) A6 (.t 24) (.t 25)],[.tmp 4],[lM iM uV,E1 A1F A6Z]⟩
def A4L:=jT.R
def B0A:AtH:=jT.lj 0 n [m] [x6,x7,x16,x17,x18]
def B29:=tT [⟨2,5,B0A⟩]
def B7O:=mR A4L jT B29 n [a0,a1] h
def A3Y:=mL jT B29 0 n [m] [x6,x7,x16,x17,x18] h
def B2m:=jT.K Tryz.func130
def A49:=jT.S
def B5a:A4D A4L A49:=B2m.out
end
def vN (X:List Int) (nm:List UInt8):Nat:=B8v nm%C4 (X.headD 0)
def P7 (X:List Int) (nm:List UInt8):Int:=X.tail.getD (vN X nm) 0
def C6z (X:List Int) (nm:List UInt8):vN X nm<32:=by
 have h1:=Q5 (X.headD 0);have h2:0<C4 (X.headD 0):=by unfold C4;exact Nat.two_pow_pos _
 have:=Nat.mod_lt (B8v nm) h2;unfold vN;omega
def C7l (D:Dev) (n k:Int) (d:List Int) (nm:List UInt8):List Part :=
 bif A1W D n k d then [.c (.i .i64 (vN (A8D D n k d) nm:Nat)),.c (.i .i64 (P7 (A8D D n k d) nm)),.c (.b A5)] else [.c o0,.c o0,.c (.b A6)]
def C0f {D:Dev} {n m k l s p:Int} {d:List Int} {f:Cell} {nm:List UInt8} {h:A9} (hD:okD D) (hd:d.length=7) (hv:IsView h f D) (hs:nm.length<9223372036854775807) :
  A2G [.a (vwC D.length n m f),.a (D4 k l s p d),.c (.s nm)] h=A4 (.t (C7l D n k d nm),h):=by
 have key:∀ g,IsView g f D->∃ g',A2n 0 [.a (vwC D.length n m f),.a (D4 k l s p d),.c (.s nm)] g=A4 (.t (C7l D n k d nm),g'):=by
  intro g hv;have hIl:(D4 k l s p d).length=11:=by simp [D4,C1,hd]
  have l11:ldN (rT (D4 k l s p d)) 0 11=A4 (.a (D4 k l s p d)):=L9 hIl;have l4:=B4D (b:=D.length) (n:=n) (m:=m) (f:=f);have hz:(encI (0::zI 32)).length=33:=F6 (d:=0) K4;have hX:=B7o D n k d;have hI:=B0C (n:=n) (m:=m) (k:=k) (l:=l) (s:=s) (p:=p) (h:=g++[rT (vwC D.length n m f),rT (D4 k l s p d)]) hD hd (hv.more _);rw [B4L,B2c];unfold C7l;cases c:A1W D n k d with
  | false =>
   rw [c] at hI;generalize encI (A8D D n k d)=x at *;generalize encI (0::zI 32)=z at *;generalize vwC D.length n m f=V at *;generalize D4 k l s p d=I at *;exact ⟨_,by simp only [esc,esh,Nat.reduceAdd,l4,l11,hI,hz,hX]<;>rfl⟩
  | true =>
   rw [c] at hI;have hM:=λh=>B56 (s:=nm) hs (h:=h)
   obtain ⟨x,t,e,ht⟩:=C3g D n k d;rw [e] at hI hX ⊢;have hP:=λh=>A8E (d:=x) (h:=h) ht (C4S (s:=nm))
   have T1:=C6z (x::t) nm;have eP:B8v nm%C4 x=vN (x::t) nm:=rfl;rw [eP] at hP;have ad:∀ q,I5 32 1 (pV q 1) (iV (vN (x::t) nm:Nat))=A4 (pV q (1+vN (x::t) nm)):=λq=>by
    rw [D2c (by omega) (by omega)];simp
   have l1:ld1 (rT (encI (x::t))) (1+vN (x::t) nm)=A4 (iV (P7 (x::t) nm)):=by
    rw [zF];have:(encI (x::t))[1+vN (x::t) nm]?=A4 (.i .i64 (P7 (x::t) nm)):=by
     rw [H0,Nat.add_comm,D9Z,D9u (by omega)];unfold P7;rw [List.tail_cons,D9z,D9u (by omega)];rfl
    rw [this];rfl
   generalize P7 (x::t) nm=B at *;generalize vN (x::t) nm=P at *;generalize encI (x::t)=X at *;generalize encI (0::zI 32)=z at *;generalize vwC D.length n m f=V at *;generalize D4 k l s p d=I at *;exact ⟨_,by simp only [esc,O9,G6,Z4,J2,O3,F8,L9,cK,Nat.reduceAdd,l4,l11,hI,hz,hX,hM,hP,ad,l1]<;>rfl⟩
 obtain ⟨g',e⟩:=key (ro h) hv.ro;exact B1g e (by unfold C7l;cases A1W D n k d<;>rfl)
abbrev Plc:=Int × Nat × Int
def A3b:Option Plc->List Cell
 | none=>[o0,o0,o0]
 | some p=>[.i .i64 p.1,.i .i64 (p.2.1:Int),.i .i64 p.2.2]
def B3W (D:Dev) (n k:Int) (d:List Int) (nm:List UInt8):Option Plc :=
 if A1W D n k d=A5/\N9 D.length n (P7 (A8D D n k d) nm)=A5 then (X8 (blk D (P7 (A8D D n k d) nm)) nm).map λs=>(P7 (A8D D n k d) nm,s.1,s.2.2) else A7
def B8p {D:Dev} {n m k l s p:Int} {d:List Int} {f:Cell} {nm:List UInt8} {h:A9} (hD:okD D) (hd:d.length=7) (hv:IsView h f D) (hs:nm.length<9223372036854775807) :
  A0s [.a (vwC D.length n m f),.a (D4 k l s p d),.c (.s nm)] h=A4 (.t [.a (A3b (B3W D n k d nm)),.c (.b (B3W D n k d nm).isSome)],h):=by
 have key:∀ g,IsView g f D->∃ g',A0g 0 [.a (vwC D.length n m f),.a (D4 k l s p d),.c (.s nm)] g=A4 (.t [.a (A3b (B3W D n k d nm)),.c (.b (B3W D n k d nm).isSome)],g'):=by
  intro g hv;have hIl:(D4 k l s p d).length=11:=by simp [D4,C1,hd]
  have l11:ldN (rT (D4 k l s p d)) 0 11=A4 (.a (D4 k l s p d)):=L9 hIl;have l4:=B4D (b:=D.length) (n:=n) (m:=m) (f:=f);have l3:=B4C (b:=D.length) (n:=n) (m:=m) (f:=f);have ef:E7 [o0,o0,o0] []=A4 [o0,o0,o0]:=rfl;have l3z:ldN (rT [o0,o0,o0]) 0 3=A4 (.a [o0,o0,o0]):=rfl;have s3z:∀ x,stN (rT [o0,o0,o0]) 0 3 [Cell.i .i64 x,o0,o0]=rT [Cell.i .i64 x,o0,o0]:=λ_=>rfl
  have hR:=C0f (n:=n) (m:=m) (k:=k) (l:=l) (s:=s) (p:=p) (nm:=nm) (h:=g++[rT (vwC D.length n m f),rT (D4 k l s p d),rT [o0,o0,o0]]) hD hd (hv.more _) hs;rw [B2w];unfold B3W;unfold C7l at hR;cases c:A1W D n k d with
  | false =>
   rw [c,cond_false] at hR;rw [if_neg (by simp)];generalize vwC D.length n m f=V at *;generalize D4 k l s p d=I at *;exact ⟨_,by simp only [esc,esh,Nat.reduceAdd,l4,l11,hR,ef,l3z,s3z,A3b,E0n]<;>rfl⟩
  | true =>
   rw [c,cond_true] at hR;generalize vN (A8D D n k d) nm=P at *;generalize P7 (A8D D n k d) nm=B at *;have hG:=λh=>cY (b:=D.length) (n:=n) (m:=m) (i:=B) (h:=h)
   cases c2:N9 D.length n B with
   | false =>
    simp only [c2] at hG;rw [if_neg (by simp)];generalize vwC D.length n m f=V at *;generalize D4 k l s p d=I at *;exact ⟨_,by simp only [esc,esh,Nat.reduceAdd,l4,l11,l3,hR,hG,ef,l3z,s3z,A3b,E0n]<;>rfl⟩
   | true =>
    simp only [c2] at hG;rw [if_pos ⟨rfl,rfl⟩];have hB:=N1 (n:=n) (m:=m) (no:=B) (h:=g++[rT (vwC D.length n m f),rT (D4 k l s p d),rT [o0,o0,o0]]) hD (hv.more _);have hF:=λh=>A0E (b:=blk D B) (nm:=nm) (h:=h) (J3 hD)
    cases c3:X8 (blk D B) nm with
    | none =>
     simp only [c3] at hF;generalize B4 (blk D B)=y at *;generalize vwC D.length n m f=V at *;generalize D4 k l s p d=I at *;have s3:stN (rT [o0,.s [],o0]) 0 3 (slC A7)=rT (slC A7):=rfl;exact ⟨_,by simp only [esc,esh,Nat.reduceAdd,l4,l11,l3,hR,hG,hB,hF,ef,l3z,s3z,s3,A3b,E0n,Option.map_none]<;>rfl⟩
    | some sl =>
     obtain ⟨kk,s',i'⟩:=sl;simp only [c3] at hF;generalize B4 (blk D B)=y at *;generalize vwC D.length n m f=V at *;generalize D4 k l s p d=I at *;have s3:stN (rT [o0,.s [],o0]) 0 3 (slC (A4 (kk,s',i')))=rT (slC (A4 (kk,s',i'))):=rfl;have g0:ld1 (rT (slC (A4 (kk,s',i')))) 0=A4 (.c (.i .i64 (kk:Int))):=rfl;have g2:ld1 (rT (slC (A4 (kk,s',i')))) 2=A4 (.c (.i .i64 i')):=rfl;have ef3:E7 [o0,o0,o0] [(0,1,.c (.i .i64 B)),(1,1,.c (.i .i64 (kk:Int))),(2,1,.c (.i .i64 i'))]=A4 [Cell.i .i64 B,.i .i64 (kk:Int),.i .i64 i']:=rfl;have s33:stN (rT [o0,o0,o0]) 0 3 [Cell.i .i64 B,.i .i64 (kk:Int),.i .i64 i']=rT [Cell.i .i64 B,.i .i64 (kk:Int),.i .i64 i']:=rfl;have l33:ldN (rT [Cell.i .i64 B,.i .i64 (kk:Int),.i .i64 i']) 0 3=A4 (.a [Cell.i .i64 B,.i .i64 (kk:Int),.i .i64 i']):=rfl;exact ⟨_,by simp only [esc,O9,G6,Z4,J2,O3,F8,L9,cK,Nat.reduceAdd,l4,l11,l3,hR,hG,hB,hF,ef,s3,g0,g2,ef3,s33,l33,A3b,D98,E0b]<;>rfl⟩
 obtain ⟨g',e⟩:=key (ro h) hv.ro;exact A9V e (by cases B3W D n k d nm<;>rfl)
def kX (l:List Slt):List Cell:=(l.map λx=>slC (A4 x)).flatten
def oT {l:List Slt}:(kX l).length=l.length*3:=by
 induction l with
 | nil=>rfl
 | cons x l ih=>simp only [kX,E0d,E0l,D9A,jK,D9G] at ih ⊢;omega
def D1N {l:List Slt} {x:Slt}:kX (l++[x])=kX l++slC (A4 x):=by simp [kX]
def D1M {l:List Slt}:K1 (kX l)=A5:=by
 induction l with
 | nil=>rfl
 | cons x l ih =>
  have:kX (x::l)=slC (A4 x)++kX l:=rfl;rw [this,kJ,C7z,ih];rfl
def D3I {l:List Slt}:noX (kX l)=A5:=by
 induction l with
 | nil=>rfl
 | cons x l ih =>
  have:kX (x::l)=[.i .i64 (x.1:Int),.s x.2.1,.i .i64 x.2.2]++kX l:=rfl;rw [this];simp [noX,Cell.isX] at ih ⊢;exact ih
def N8 (b:List UInt8):Nat->Nat->List Slt
 | 0,_=>[]
 | e+1,k=>match M4 b k with
  | some x=>(k,x)::N8 b e (k+1)
  | none=>N8 b e (k+1)
def H9 (b:List UInt8):List Slt:=N8 b 7 0
def Y0 {b:List UInt8} {e k:Nat} (hx:M4 b k=A7):N8 b (e+1) k=N8 b e (k+1):=by rw [N8,hx]
def Y4 {b:List UInt8} {e k:Nat} {x:Ent} (hx:M4 b k=A4 x):N8 b (e+1) k=(k,x)::N8 b e (k+1):=by rw [N8,hx]
def D6u {h:A9} {jd m sz:Nat} {ys:List Cell} (hy:rd h jd=rT ys) (hyl:ys.length=m*sz) (hsz:0<sz) (hn:m<=1073741824) :
  qK h sz (.c .ns) (sV jd 0 m sz)=A4 (sV h.length 0 m sz,h++[rT ys]):=by
 have h2:Q2 h sz (sV jd 0 m sz)=A4 ys:=by
  simp only [Q2,if_true,kY,hy,D9H,D9O,D9T];rw [<-hyl,List.take_length,if_pos ⟨D9x _,rfl⟩]
 have e1:ys.length/sz=m:=by rw [hyl];exact Nat.mul_div_cancel _ hsz
 simp only [qK,h2,D9H];rw [e1,if_pos hn]
def Held (h:A9) (x:Cell) (l:List Slt) (b r0 r:Nat):Prop:=(l=[]/\x=.ns)\/∃ id,x=.sl id 0 l.length 3/\rd h id=rT (kX l)/\b<=id/\id≠r0/\id≠r
def Held.more {h:A9} {x:Cell} {l:List Slt} {b r0 r:Nat} (hd:Held h x l b r0 r) (t:A9):Held (h++t) x l b r0 r:=by
 rcases hd with hd | ⟨id,h1,h2,h3⟩
 ·exact .inl hd
 ·exact .inr ⟨id,h1,B6 h2,h3⟩
def D3t {k:Nat} {n:Int} {s:List UInt8} {x:Cell} {l:List Slt} {r0 r:Nat} {B h:A9} {c0:List Cell} (hlow:Low B.length B h) (hr:rd h r=rT [x]) (h0:rd h r0=rT c0) (h0r:r0≠r) (hBr:B.length<=r) (hB0:B.length<=r0) (hd:Held h x l B.length r0 r) (hl:l.length<=7) :
  ∃ x' h',mY [.a [.i .i64 (k:Int),.s s,.i .i64 n],pV r 0] h=A4 (bV A5,h')/\Low B.length B h'/\rd h' r=rT [x']/\rd h' r0=rT c0/\Held h' x' (l++[(k,(s,n))]) B.length r0 r:=by
 have T1:=D7 hr;have D9q:=D7 h0;have l1:B8 (h++[rT [.i .i64 (k:Int),.s s,.i .i64 n]]) (pV r 0)=A4 (.c x):=B9 (cs:=[x]) (B6 hr) rfl (by simp);have ef:E7 [o0,.s [],o0] [(0,3,.a [.i .i64 (k:Int),.s s,.i .i64 n])]=A4 [.i .i64 (k:Int),.s s,.i .i64 n]:=rfl;have hBh:=hlow.2.1;rcases hd with ⟨rfl,rfl⟩ | ⟨id,rfl,hi,hbi,hi0,hir⟩
 ·have hA:=D6u (h:=h++[rT [.i .i64 (k:Int),.s s,.i .i64 n],rT [.i .i64 (k:Int),.s s,.i .i64 n]]) (jd:=h.length+1) (m:=1) (sz:=3) (ys:=[.i .i64 (k:Int),.s s,.i .i64 n]) (by simp) rfl (by omega) (by omega);simp only [D9A,D9G,D95,D9T,D9C,D99,D9U,Nat.reduceAdd] at hA;have hr2:rd (h++[rT [.i .i64 (k:Int),.s s,.i .i64 n],rT [.i .i64 (k:Int),.s s,.i .i64 n],rT [.i .i64 (k:Int),.s s,.i .i64 n]]) r=rT [.ns]:=B6 hr;have t1:=I3 (x:=.sl (h.length+2) 0 1 3) (off:=0) hr2 (by simp);refine ⟨.sl (h.length+2) 0 1 3,_,A0o (n:=0) (by rw [A0d];simp only [esc,esh,Nat.reduceAdd,l1,ef,hA,t1]<;>rfl),(hlow.new _).set hBr _,?_,?_,.inr ⟨h.length+2,rfl,?_,by omega,by omega,by omega⟩⟩
  ·exact D1 (D7 hr2)
  ·rw [B7 (Ne.symm h0r)];exact B6 h0
  ·rw [B7 (by omega)];simp [kX,slC]
 ·have hA:=A72 (h:=h++[rT [.i .i64 (k:Int),.s s,.i .i64 n],rT [.i .i64 (k:Int),.s s,.i .i64 n]]) (id:=id) (jd:=h.length+1) (n:=l.length) (m:=1) (sz:=3) (cs:=kX l) (ys:=[.i .i64 (k:Int),.s s,.i .i64 n]) (rw:=A5) (B6 hi) oT (by simp) rfl rfl (by omega) (by omega);have hli:=D7 hi;have es:(h++[rT [.i .i64 (k:Int),.s s,.i .i64 n],rT [.i .i64 (k:Int),.s s,.i .i64 n]]).length=h.length+2:=by simp
  rw [es] at hA;have hr2:rd ((h++[rT [.i .i64 (k:Int),.s s,.i .i64 n],rT [.i .i64 (k:Int),.s s,.i .i64 n]]).set id A7++[rT (kX l++[.i .i64 (k:Int),.s s,.i .i64 n])]) r=rT [.sl id 0 l.length 3]:=by
   refine B6 ?_;rw [B7 hir];exact B6 hr
  have t1:=I3 (x:=.sl (h.length+2) 0 (l.length+1) 3) (off:=0) hr2 (by simp);refine ⟨.sl (h.length+2) 0 (l.length+1) 3,_,A0o (n:=0) (by rw [A0d];simp only [esc,esh,Nat.reduceAdd,l1,ef,hA,t1]<;>rfl),(((hlow.new _).set hbi _).new _).set hBr _,?_,?_,.inr ⟨h.length+2,by simp,?_,by omega,by omega,by omega⟩⟩
  ·exact D1 (D7 hr2)
  ·rw [B7 (Ne.symm h0r)];refine B6 ?_;rw [B7 hi0];exact B6 h0
  ·rw [B7 (by omega),D1N];have:((h++[rT [.i .i64 (k:Int),.s s,.i .i64 n],rT [.i .i64 (k:Int),.s s,.i .i64 n]]).set id A7).length=h.length+2:=by simp
   rw [<-this];exact O8
def B5T {b:List UInt8} {r0 r q:Nat} {B:A9} (hb:b.length=256) (h0r:r0≠r) (hBr:B.length<=r) (hB0:B.length<=r0):∀ (e k m:Nat) (h:A9) (x:Cell) (l:List Slt),k+e=7->e<m->l.length<=k->Low B.length B h ->
  rd h r=rT [x]->rd h r0=rT (B4 b)->Held h x l B.length r0 r ->
  ∃ x' h',qR q m (.c (.f 212 [(r,0)])) (pV r0 0) (iV (k:Int)) h=A4 (.t [],h')/\Low B.length B h'/\rd h' r=rT [x']/\Held h' x' (l++N8 b e k) B.length r0 r
 | e,k,0,h,x,l,_,hm,_,_,_,_,_=>by omega
 | 0,k,m+1,h,x,l,hk,hm,hl,hlow,hr,h0,hd=>by
  have e0:k=7:=by omega
  subst e0;have c0:¬ ((7:Nat):Int)<7:=by omega
  refine ⟨x,h,?_,hlow,hr,by rw [N8,D9Q];exact hd⟩;rw [lC];simp only [esc,c0]<;>rfl
 | e+1,k,m+1,h,x,l,hk,hm,hl,hlow,hr,h0,hd=>by
  have c0:(k:Int)<7:=by omega
  have hbl:(B4 b).length=256:=by rw [B5,hb]
  have s1:=C9 (h:=h) (id:=r0) h0 hbl;have hR:=A77 (h:=h) (k:=k) hb (by omega);have w1:=D9 (show k+1<9223372036854775808 by omega);have hcv:∀ (x:Val) (h:A9),qT rQ (.c (.f 212 [(r,0)])) [x] h=mY [x,pV r 0] h:=λ_ _=>Eq.trans rfl rfl
  rw [lC];cases hx:M4 b k with
  | none =>
   rw [hx] at hR;rw [Y0 hx];obtain ⟨x',h',f1,f2⟩:=B5T (q:=q) hb h0r hBr hB0 e (k+1) m (h++[rT ([.s [],o0])]) x l (by omega) (by omega) (by omega) (hlow.new _) (B6 hr) (B6 h0) (hd.more _);refine ⟨x',h',?_,f2⟩;generalize B4 b=y at *;simp only [esc,esh,Nat.reduceAdd,c0,s1,hR,R0,E0n,w1];exact f1
  | some en =>
   obtain ⟨s,n⟩:=en;rw [hx] at hR;rw [Y4 hx];have ef:E7 [o0,.s [],o0] [(0,1,iV (k:Int)),(1,2,.a [.s s,.i .i64 n])]=A4 [.i .i64 (k:Int),.s s,.i .i64 n]:=rfl;obtain ⟨x1,h1,g1,g2,g3,g4,g5⟩:=D3t (k:=k) (n:=n) (s:=s) (hlow.new [rT [.s s,.i .i64 n]]) (B6 hr) (B6 h0) h0r hBr hB0 (hd.more _) (by omega);obtain ⟨x',h',f1,f2,f3,f4⟩:=B5T (q:=q) hb h0r hBr hB0 e (k+1) m h1 x1 (l++[(k,(s,n))]) (by omega) (by omega) (by simp;omega) g2 g3 g4 g5;rw [D9C,List.singleton_append] at f4;refine ⟨x',h',?_,f2,f3,f4⟩;generalize B4 b=y at *;simp only [esc,esh,Nat.reduceAdd,c0,s1,hR,R0,D98,ef,hcv,g1,w1];exact f1
def wR {b:List UInt8} {h:A9} (hb:b.length=256):∃ v t,fO [.a (B4 b)] h=A4 (v,h++t)/\Has (h++t) v 3 (H9 b).length (kX (H9 b))/\(t=[]/\v=.c .ns/\H9 b=[]\/t=[rT (kX (H9 b))]/\v=sV h.length 0 (H9 b).length 3):=by
 have key:∀ g,∃ x g',uM 8 [.a (B4 b)] g=A4 (.c x,g')/\Held g' x (H9 b) g.length (g.length+3) (g.length+2):=by
  intro g;have hbl:(B4 b).length=256:=by rw [B5,hb]
  have emk:A70 212 [pV (g.length+2) 0]=A4 (.c (.f 212 [(g.length+2,0)])):=rfl;obtain ⟨x,h',f1,f2,f3,f4⟩:=B5T (b:=b) (r0:=g.length+3) (r:=g.length+2) (q:=8) (B:=g) hb (by omega) (by omega) (by omega) 7 0 8 (g++[rT (B4 b),rT [],rT [.ns],rT (B4 b)]) .ns [] (by omega) (by omega) (by simp)
   ((Low.refl (D9x _)).new _) (by simp) (by simp) (.inl ⟨rfl,rfl⟩)
  have hS:fV [.a (B4 b),.c (.f 212 [(g.length+2,0)])] (g++[rT (B4 b),rT [],rT [.ns]])=A4 (.t [],h'):=by
   refine A2D (n:=8) ?_;rw [A2j];simp only [esc,esh,Nat.reduceAdd];exact f1
  have t1:B8 h' (pV (g.length+2) 0)=A4 (.c x):=B9 (cs:=[x]) f3 rfl (by simp);rw [B4H];generalize B4 b=y at *;exact ⟨x,h',by simp only [esc,esh,Nat.reduceAdd,hbl,emk,hS,t1],f4⟩
 obtain ⟨x,g',e,hd⟩:=key (ro h);rcases hd with ⟨hl,rfl⟩ | ⟨id,rfl,hr,hbi,_⟩
 ·refine ⟨.c .ns,[],?_,?_,.inl ⟨rfl,rfl,hl⟩⟩
  ·rw [D9Q];exact B2G e (by simp [Val.low,Cell.low,Cell.flat])
  ·rw [hl];exact .inl ⟨rfl,rfl,rfl⟩
 ·rw [G5] at hbi;refine ⟨sV h.length 0 (H9 b).length 3,[rT (kX (H9 b))],B2H e ⟨oT,id,rfl,hbi,hr⟩ D1M,Has.row (rw:=A5) (by simp) oT D3I,.inr ⟨rfl,rfl⟩⟩
def D7A (h:A9) (x:Cell) (cs:List Cell) (n sz b:Nat) (rs:List Nat):Prop:=(n=0/\cs=[]/\x=.ns)\/∃ id,x=.sl id 0 n sz/\rd h id=rT cs/\cs.length=n*sz/\b<=id/\id ∉ rs
def VarC (h:A9) (r:Nat) (cs:List Cell) (n sz b:Nat) (rs:List Nat):Prop:=∃ x,rd h r=rT [x]/\D7A h x cs n sz b rs
def VarC.nil {h:A9} {r sz b:Nat} {rs:List Nat} (hr:rd h r=rT [.ns]):VarC h r [] 0 sz b rs:=⟨.ns,hr,.inl ⟨rfl,rfl,rfl⟩⟩
def VarC.keep {h h':A9} {r n sz b:Nat} {cs:List Cell} {rs:List Nat} (hv:VarC h r cs n sz b rs) (h1:rd h' r=rd h r) (h2:∀ id,id ∉ rs->∀ x,rd h id=A4 x->rd h' id=A4 x):VarC h' r cs n sz b rs:=by
 obtain ⟨x,hx,hd⟩:=hv;refine ⟨x,by rw [h1];exact hx,?_⟩;rcases hd with hd | ⟨id,e,hr,hl,hb,hn⟩
 ·exact .inl hd
 ·exact .inr ⟨id,e,h2 id hn _ hr,hl,hb,hn⟩
def VarC.more {h:A9} {r n sz b:Nat} {cs:List Cell} {rs rs':List Nat} (hv:VarC h r cs n sz b rs) (t:A9) (hrs:∀ j∈rs',j∈rs\/h.length<=j):VarC (h++t) r cs n sz b rs':=by
 obtain ⟨x,hx,hd⟩:=hv;refine ⟨x,B6 hx,?_⟩;rcases hd with hd | ⟨id,e,hr,hl,hb,hn⟩
 ·exact .inl hd
 ·refine .inr ⟨id,e,B6 hr,hl,hb,λhm=>?_⟩;have:=D7 hr;rcases hrs id hm with h1 | h1
  ·exact hn h1
  ·omega
def VarC.fewer {h:A9} {r n sz b:Nat} {cs:List Cell} {rs rs':List Nat} (hv:VarC h r cs n sz b rs) (hrs:∀ j∈rs',j∈rs):VarC h r cs n sz b rs':=by
 have:=hv.more (rs':=rs') [] (λj hj=>.inl (hrs j hj))
 rwa [D9Q] at this
def VarC.push {h:A9} {r n sz b:Nat} {cs ys:List Cell} {rs:List Nat} (hv:VarC h r cs n sz b rs) (hr:r∈rs) (hbr:b<=r) (hbh:b<=h.length) (T1:∀ j∈rs,j<h.length) (hl:n<=100000) (hy:ys.length=sz) (hsz:0<sz) :
  ∃ x v h2 h3,B8 h (pV r 0)=A4 (.c x)/\qK (h++[rT ys]) sz (.c x) (sV h.length 0 1 sz)=A4 (.c v,h2)/\H1 h2 (pV r 0) (.c v)=A4 h3 /\
   VarC h3 r (cs++ys) (n+1) sz b rs/\Low b h h3/\(∀ j∈rs,j≠r->rd h3 j=rd h j)/\h.length<=h3.length:=by
 obtain ⟨x,hx,hd⟩:=hv;have hrl:=D7 hx;have l1:B8 h (pV r 0)=A4 (.c x):=B9 hx rfl (by simp);rcases hd with ⟨rfl,rfl,rfl⟩ | ⟨id,rfl,hi,nQ,hb,hn⟩
 ·have hA:=C9z (h:=h++[rT ys]) (jd:=h.length) (m:=1) (sz:=sz) (ys:=ys) (by simp) (by omega) hsz (by omega);have e1:(h++[rT ys]).length=h.length+1:=by simp
  rw [e1] at hA;have hr2:rd (h++[rT ys]++[rT ys]) r=rT [.ns]:=B6 (B6 hx);have s1:=I3 (x:=.sl (h.length+1) 0 1 sz) (off:=0) hr2 (by simp);refine ⟨.ns,_,_,_,l1,hA,s1,⟨.sl (h.length+1) 0 1 sz,D1 (D7 hr2),.inr ⟨h.length+1,rfl,?_,by simp [hy],by omega,λh1=>by have:=T1 _ h1;omega⟩⟩,(((Low.refl hbh).new _).new _).set hbr _,λj hj hjr=>?_,by simp⟩
  ·rw [B7 (by omega)];have:=O8 (h:=h++[rT ys]) (r:=⟨ys,A5⟩);rw [e1] at this;exact this
  ·rw [B7 (Ne.symm hjr)];have:=T1 j hj;rw [E2 (by simp;omega),E2 this]
 ·have L8:=D7 hi;have Z5:id≠r:=λe=>hn (e ▸ hr)
  have hA:=A72 (h:=h++[rT ys]) (id:=id) (jd:=h.length) (n:=n) (m:=1) (sz:=sz) (cs:=cs) (ys:=ys) (rw:=A5) (B6 hi) nQ (by simp) (by omega) rfl hsz (by omega);have e1:(h++[rT ys]).length=h.length+1:=by simp
  rw [e1] at hA;have hr2:rd ((h++[rT ys]).set id A7++[rT (cs++ys)]) r=rT [.sl id 0 n sz]:=by
   refine B6 ?_;rw [B7 Z5];exact B6 hx
  have s1:=I3 (x:=.sl (h.length+1) 0 (n+1) sz) (off:=0) hr2 (by simp);refine ⟨_,_,_,_,l1,hA,s1,⟨.sl (h.length+1) 0 (n+1) sz,D1 (D7 hr2),.inr ⟨h.length+1,by simp,?_,by simp [nQ,hy,E0A],by omega,λh1=>by have:=T1 _ h1;omega⟩⟩,((((Low.refl hbh).new _).set hb _).new _).set hbr _,λj hj hjr=>?_,by simp;omega⟩
  ·rw [B7 (by omega)];have:=O8 (h:=(h++[rT ys]).set id A7) (r:=⟨cs++ys,A5⟩);rw [E0c,e1] at this;exact this
  ·have hji:j≠id:=λe=>hn (e ▸ hj)
   have:=T1 j hj;rw [B7 (Ne.symm hjr),E2 (by simp;omega),B7 (Ne.symm hji),E2 this]
abbrev Tld:=Plc × List UInt8
def B7G (no:Int) (l:List Slt):List Tld:=l.map λs=>((no,s.1,s.2.2),s.2.1)
def C4h (D:Dev) (L:List Int):List Tld:=L.flatMap λno=>B7G no (H9 (blk D no))
def C49 {l:List Slt}:∀ {i:Nat} {x:Slt},l[i]?=A4 x->((kX l).drop (i*3)).take 3=slC (A4 x):=by
 induction l with
 | nil=>intro i x h;simp at h
 | cons y l ih =>
  intro i x h;have e:kX (y::l)=slC (A4 y)++kX l:=rfl;cases i with
  | zero=>simp at h;subst h;rw [e];rfl
  | succ i =>
   simp at h;rw [e,show (i+1)*3=3+i*3 by omega,<-E0t,E0s (by rw [jK])];exact ih h
def C3L {σ:Type} {L1:Nat->Val->A9->A2g} {L0:A9->A2g} {C:Val->Val->A9->A2g} {no:Int} {id c0:Nat} {l:List Slt} (P:Nat -> σ -> A9->Prop) (step:σ -> Tld -> σ)
  (hL:∀ m x h,L1 (m+1) x h=bnd (K6 .lss x (iV (l.length:Nat))) λv14=>cnd v14 (bnd (E5 3 (sV id 0 l.length 3) x) λv15=>bnd (D3 h 3 v15) λv16=>bnd (E9 ((h++[rT ([o0,.s [],o0])])) 3 ((pV h.length 0)) v16) λh17=>bnd (V8 ((pV h.length 0)) 0) λv18=>bnd (B8 h17 v18) λv19=>bnd (V8 ((pV h.length 0)) 1) λv20=>bnd (V8 v20 1) λv21=>bnd (B8 h17 v21) λv22=>bnd (E7 ([o0,o0,o0]) [(0,1,iV no),(1,1,v19),(2,1,v22)]) λc23=>bnd (V8 ((pV h.length 0)) 1) λv24=>bnd (V8 v24 0) λv25=>bnd (B8 h17 v25) λv26=>bnd (C (.a c23) v26 h17) λp27=>bnd (K6 .add x (iV 1)) λv28=>L1 m v28 p27.2) (L0 h))
  (hI:∀ c s h,P c s h->rd h id=rT (kX l))
  (hM:∀ c s h t,P c s h->P c s (h++t))
  (hC:∀ c s h x,P c s h->c<c0+7->x∈l->∃ h',C (.a (A3b (A4 (no,x.1,x.2.2)))) (.c (.s x.2.1)) h=A4 (.t [],h')/\P (c+1) (step s ((no,x.1,x.2.2),x.2.1)) h') (h62:l.length<=7) :
  ∀ (e i M:Nat) (s:σ) (h:A9),i+e=l.length->e<M->P (c0+i) s h->∃ h',L1 M (iV (i:Int)) h=L0 h'/\P (c0+l.length) ((B7G no (l.drop i)).foldl step s) h'
 | e,i,0,s,h,_,hm,_=>by omega
 | 0,i,M+1,s,h,hi,hm,hP=>by
  have c1:¬ (i:Int)<(l.length:Nat):=by omega
  refine ⟨h,?_,by rw [D9K (by omega),show l.length=i by omega];exact hP⟩;rw [hL];simp only [E4,H7,c1,decide_false,dT]
 | e+1,i,M+1,s,h,hi,hm,hP=>by
  have L8:i<l.length:=by omega
  have c1:(i:Int)<(l.length:Nat):=by omega
  have hx:l[i]?=A4 l[i]:=D9u L8;have hr:=hI _ s h hP;have ad:E5 3 (sV id 0 l.length 3) (iV (i:Int))=A4 (pV id (i*3)):=by rw [D8 L8];simp
  have lQ:l[i]∈l:=D9Y L8;obtain ⟨⟨kk,s',i'⟩,ex⟩:∃ x,x=l[i]:=⟨_,rfl⟩;rw [<-ex] at hx lQ;have tL:=C49 hx;have hlen:=oT (l:=l);have l3:D3 h 3 (pV id (i*3))=A4 (.a (slC (A4 (kk,s',i')))):=by rw [T2 hr (by rw [hlen];omega) rfl,tL]
  have s3:E9 (h++[rT [o0,.s [],o0]]) 3 (pV h.length 0) (.a (slC (A4 (kk,s',i'))))=A4 (h++[rT (slC (A4 (kk,s',i')))]):=by rw [F8];rfl
  have g0:B8 (h++[rT (slC (A4 (kk,s',i')))]) (pV h.length 0)=A4 (iV (kk:Int)):=by rw [J2];rfl
  have g1:B8 (h++[rT (slC (A4 (kk,s',i')))]) (pV h.length 1)=A4 (.c (.s s')):=by rw [J2];rfl
  have g2:B8 (h++[rT (slC (A4 (kk,s',i')))]) (pV h.length 2)=A4 (iV i'):=by rw [J2];rfl
  have ef:E7 [o0,o0,o0] [(0,1,iV no),(1,1,iV (kk:Int)),(2,1,iV i')]=A4 (A3b (A4 (no,kk,i'))):=rfl;obtain ⟨h',f1,f2⟩:=hC _ s (h++[rT (slC (A4 (kk,s',i')))]) (kk,s',i') (hM _ _ _ _ hP) (by omega) lQ;obtain ⟨h'',e1,e2⟩:=C3L P step hL hI hM hC h62 e (i+1) M _ h' (by omega) (by omega) f2;have w1:=D9 (show i+1<9223372036854775808 by omega);rw [hL,D9E L8,<-ex];refine ⟨h'',?_,e2⟩;simp only [E4,H7,c1,decide_true,fD,ad,l3,s3,qL,E0D,D9T,Nat.reduceAdd,g0,g1,g2,ef,f1,P6,w1];exact e1
def C2N {D:Dev} {no:Int} {L:List Int}:C4h D (no::L)=B7G no (H9 (blk D no))++C4h D L:=by simp [C4h]
def fP (b:List UInt8):(H9 b).length<=7:=by
 have:∀ e k,(N8 b e k).length<=e:=by
  intro e
  induction e with
  | zero=>intro k;simp [N8]
  | succ e ih =>
   intro k;have:=ih (k+1);rw [N8];split<;>simp<;>omega
 exact this 7 0
def B63 {σ:Type} {L0:Nat->Val->A9->A2g} {L1:Nat->Nat->Val->Val->Val->Val->Val->A9->A2g} {C:Val->Val->A9->A2g} {N:Nat} {x3:Val} {D:Dev} {n m:Int} {f:Cell} {sid:Nat} {L:List Int} (hD:okD D) (P:List Nat->Nat -> σ -> A9->Prop) (step:σ -> Tld -> σ) (hN:8<=N)
  (hL0:∀ m x h,L0 (m+1) x h=bnd (K6 .lss x (iV (L.length:Nat))) λv7=>cnd v7 (bnd (E5 1 (sV sid 0 L.length 1) x) λv8=>bnd (B8 h v8) λv9=>bnd (D3 h 4 x3) λv10=>bnd (E3 [v10,v9] h) λp11=>bnd (fO [p11.1] p11.2) λp12=>bnd (C1Y p12.1) λv13=>L1 m N v9 x p12.1 v13 (iV 0) p12.2) (B8D [] h))
  (hL1:∀ m0 v9 x v w m y h,L1 m0 (m+1) v9 x v w y h=bnd (K6 .lss y w) λv14=>cnd v14 (bnd (E5 3 v y) λv15=>bnd (D3 h 3 v15) λv16=>bnd (E9 ((h++[rT ([o0,.s [],o0])])) 3 ((pV h.length 0)) v16) λh17=>bnd (V8 ((pV h.length 0)) 0) λv18=>bnd (B8 h17 v18) λv19=>bnd (V8 ((pV h.length 0)) 1) λv20=>bnd (V8 v20 1) λv21=>bnd (B8 h17 v21) λv22=>bnd (E7 ([o0,o0,o0]) [(0,1,v9),(1,1,v19),(2,1,v22)]) λc23=>bnd (V8 ((pV h.length 0)) 1) λv24=>bnd (V8 v24 0) λv25=>bnd (B8 h17 v25) λv26=>bnd (C (.a c23) v26 h17) λp27=>bnd (K6 .add y (iV 1)) λv28=>L1 m0 m v9 x v w v28 p27.2) (bnd (K6 .add x (iV 1)) λv29=>L0 m0 v29 h))
  (hI:∀ rs c s h,P rs c s h->D3 h 4 x3=A4 (.a (vwC D.length n m f))/\IsView h f D/\rd h sid=rT (encI L))
  (hR:∀ rs c s h t,P rs c s h->P rs c s (h++t))
  (hN1:∀ rs c s h r,P rs c s h->P (h.length::rs) c s (h++[A4 r]))
  (hF:∀ i rs c s h,P (i::rs) c s h->P rs c s h)
  (hW:∀ rs c c' s h,P rs c s h->c<=c'->P rs c' s h)
  (hC:∀ rs c s h no x,P rs c s h->c<7*L.length->no∈L->x∈H9 (blk D no)->∃ h',C (.a (A3b (A4 (no,x.1,x.2.2)))) (.c (.s x.2.1)) h=A4 (.t [],h')/\P rs (c+1) (step s ((no,x.1,x.2.2),x.2.1)) h'/\∀ j∈rs,rd h' j=rd h j)
  (h62:L.length<1000) :
  ∀ (e i M:Nat) (rs:List Nat) (s:σ) (h:A9),i+e=L.length->e<M->P rs (7*i) s h->∃ h',L0 M (iV (i:Int)) h=A4 (.t [],h')/\P rs (7*L.length) ((C4h D (L.drop i)).foldl step s) h'
 | e,i,0,rs,s,h,_,hm,_=>by omega
 | 0,i,M+1,rs,s,h,hi,hm,hP=>by
  have c0:¬ (i:Int)<(L.length:Nat):=by omega
  refine ⟨h,?_,by rw [D9K (by omega),show L.length=i by omega];exact hP⟩;rw [hL0];simp only [E4,H7,c0,decide_false,dT];rfl
 | e+1,i,M+1,rs,s,h,hi,hm,hP=>by
  have L8:i<L.length:=by omega
  have c0:(i:Int)<(L.length:Nat):=by omega
  obtain ⟨i1,i2,i3⟩:=hI rs _ s h hP;have lQ:L[i]∈L:=D9Y L8;have ad:E5 1 (sV sid 0 L.length 1) (iV (i:Int))=A4 (pV sid i):=by rw [D8 L8];simp
  have l1:B8 h (pV sid i)=A4 (iV L[i]):=B9 i3 (by rw [H0,D9u L8];rfl) rfl;have hB:=N1 (n:=n) (m:=m) (no:=L[i]) hD i2;obtain ⟨v,t,b1,b2,b3⟩:=wR (b:=blk D L[i]) (h:=h) (J3 hD);have hlen:=b2.len;have w1:=D9 (show i+1<9223372036854775808 by omega);have h7:=fP (blk D L[i]);have main:∃ h',L1 M N (iV L[i]) (iV (i:Int)) v (iV ((H9 (blk D L[i])).length:Nat)) (iV ((0:Nat):Int)) (h++t)=bnd (K6 .add (iV (i:Int)) (iV 1)) (λv29=>L0 M v29 h')/\P rs (7*(i+1)) ((B7G L[i] (H9 (blk D L[i]))).foldl step s) h':=by
   rcases b3 with ⟨rfl,rfl,b3⟩ | ⟨rfl,rfl⟩
   ·refine ⟨h,?_,by rw [b3];exact hW _ _ _ _ _ hP (by omega)⟩;obtain ⟨N',rfl⟩:∃ N',N=N'+1:=⟨N-1,by omega⟩;rw [hL1,b3,D9Q];rfl
   ·have hl0:(h++[rT (kX (H9 (blk D L[i])))])=h++[rT (kX (H9 (blk D L[i])))]:=rfl;obtain ⟨h',f1,f2⟩:=C3L (L1:=λm y h'=>L1 M m (iV L[i]) (iV (i:Int)) (sV h.length 0 (H9 (blk D L[i])).length 3) (iV ((H9 (blk D L[i])).length:Nat)) y h') (L0:=λh'=>bnd (K6 .add (iV (i:Int)) (iV 1)) (λv29=>L0 M v29 h')) (C:=C) (no:=L[i]) (id:=h.length) (c0:=7*i) (l:=H9 (blk D L[i]))
     (λc s' h'=>P (h.length::rs) c s' h'/\rd h' h.length=rT (kX (H9 (blk D L[i])))) step (λm y h'=>hL1 M _ _ _ _ m y h') (λc s' h' hp=>hp.2) (λc s' h' t hp=>⟨hR _ _ _ _ _ hp.1,B6 hp.2⟩)
     (λc s' h' x hp hc hx=>by
      obtain ⟨h2,c1,c2,c3⟩:=hC _ _ _ _ L[i] x hp.1 (by omega) lQ hx;exact ⟨h2,c1,c2,by rw [c3 h.length (by simp)];exact hp.2⟩) (by omega) (H9 (blk D L[i])).length 0 N s (h++[rT (kX (H9 (blk D L[i])))]) (by omega) (by omega) ⟨hN1 _ _ _ _ _ hP,by simp⟩
    rw [D9O] at f2;exact ⟨h',f1,hW _ _ _ _ _ (hF _ _ _ _ _ f2.1) (by omega)⟩
  obtain ⟨h1,m1,m2⟩:=main;obtain ⟨h',f1,f2⟩:=B63 hD P step hN hL0 hL1 hI hR hN1 hF hW hC h62 e (i+1) M rs _ h1 (by omega) (by omega) m2;rw [hL0,D9E L8,C2N,List.foldl_append];refine ⟨h',?_,f2⟩;simp only [E4,H7,c0,decide_true,fD,ad,l1,i1,hB,b1,hlen];refine m1.trans ?_;simp only [P6,E4,w1];exact f1
def C4V {a b:List UInt8} {h:A9}:A7N [.c (.s a),.c (.s b)] h=A4 (bV (S5 a b),h) :=
 B5n (n:=0) (h2:=ro h) (by rw [B88];simp only [esc]) rfl
section
variable {α:Type} {lt:α -> α -> Prop}
def C7j (irr:∀ a,¬ lt a a) (tr:∀ a b c,lt a b->lt b c->lt a c):∀ {l m:List α},l.Pairwise lt->m.Pairwise lt->(∀ x,x∈l↔x∈m)->l=m
 | [],[],_,_,_=>rfl
 | [],y::m,_,_,h=>absurd ((h y).2 (D9I ..)) (by simp)
 | x::l,[],_,_,h=>absurd ((h x).1 (D9I ..)) (by simp)
 | x::l,y::m,hl,hm,h=>by
  rw [List.pairwise_cons] at hl hm;have e:x=y:=by
   rcases List.mem_cons.1 ((h x).1 (D9I ..)) with e | h1
   ·exact e
   ·rcases List.mem_cons.1 ((h y).2 (D9I ..)) with e | h2
    ·exact e.symm
    ·exact absurd (tr _ _ _ (hm.1 x h1) (hl.1 y h2)) (irr y)
  subst e;rw [C7j irr tr hl.2 hm.2 λz=>?_];constructor
  ·intro hz;rcases List.mem_cons.1 ((h z).1 (D9F _ hz)) with e | h1
   ·subst e;exact absurd (hl.1 z hz) (irr z)
   ·exact h1
  ·intro hz;rcases List.mem_cons.1 ((h z).2 (D9F _ hz)) with e | h1
   ·subst e;exact absurd (hm.1 z hz) (irr z)
   ·exact h1
def C7k (tr:∀ a b c,lt a b->lt b c->lt a c) (tot:∀ a b,lt a b\/a=b\/lt b a) {l:List α} {x:α} {p:Nat} (hl:l.Pairwise lt) (hx:x ∉ l) (h1:∀ y∈l.take p,lt y x) (h2:∀ y∈l.drop p,¬ lt y x) :
  (l.take p++x::l.drop p).Pairwise lt:=by
 have hl':=hl;rw [<-List.take_append_drop p l] at hl';rw [List.pairwise_append] at hl';obtain ⟨k1,k2,k3⟩:=hl';rw [List.pairwise_append];refine ⟨k1,?_,?_⟩
 ·rw [List.pairwise_cons];refine ⟨λy hy=>?_,k2⟩;rcases tot x y with h | h | h
  ·exact h
  ·subst h;exact absurd (List.mem_of_mem_drop hy) hx
  ·exact absurd h (h2 y hy)
 ·intro a ha b hb;rcases List.mem_cons.1 hb with e | hb
  ·subst e;exact h1 a ha
  ·exact k3 a ha b hb
def mem_insert {l:List α} {x y:α} {p:Nat}:y∈l.take p++x::l.drop p↔y=x\/y∈l:=by
 have e:y∈l↔y∈l.take p\/y∈l.drop p:=by rw [<-List.mem_append,List.take_append_drop]
 rw [List.mem_append,E0B,e];constructor
 ·rintro (h | h | h)
  ·exact .inr (.inl h)
  ·exact .inl h
  ·exact .inr (.inr h)
 ·rintro (h | h | h)
  ·exact .inr (.inl h)
  ·exact .inl h
  ·exact .inr (.inr h)
end
def A3J:∀ a:List UInt8,S5 a a=A6
 | []=>rfl
 | x::a=>by simp [S5,A3J a,UInt8.lt_irrefl]
def A75:∀ {a b c:List UInt8},S5 a b=A5->S5 b c=A5->S5 a c=A5
 | [],[],_,h,_=>by simp [S5] at h
 | [],_::_,[],_,h=>by simp [S5] at h
 | [],_::_,_::_,_,_=>rfl
 | _::_,[],_,h,_=>by simp [S5] at h
 | _::_,_::_,[],_,h=>by simp [S5] at h
 | x::a,y::b,z::c,h1,h2=>by
  simp only [S5,E0y,D9v,decide_eq_true_eq,beq_iff_eq] at h1 h2 ⊢;rcases h1 with h1 | ⟨rfl,h1⟩
  ·rcases h2 with h2 | ⟨rfl,h2⟩
   ·exact .inl (UInt8.lt_trans h1 h2)
   ·exact .inl h1
  ·rcases h2 with h2 | ⟨rfl,h2⟩
   ·exact .inl h2
   ·exact .inr ⟨rfl,A75 h1 h2⟩
def C2V:∀ a b:List UInt8,S5 a b=A5\/a=b\/S5 b a=A5
 | [],[]=>.inr (.inl rfl)
 | [],_::_=>.inl rfl
 | _::_,[]=>.inr (.inr rfl)
 | x::a,y::b=>by
  simp only [S5,E0y,D9v,decide_eq_true_eq,beq_iff_eq,List.cons.injEq];rcases Nat.lt_trichotomy x.toNat y.toNat with h | h | h
  ·exact .inl (.inl (UInt8.lt_iff_toNat_lt.2 h))
  ·have e:=UInt8.toNat_inj.1 h;subst e;rcases C2V a b with h | h | h
   ·exact .inl (.inr ⟨rfl,h⟩)
   ·exact .inr (.inl ⟨rfl,h⟩)
   ·exact .inr (.inr (.inr ⟨rfl,h⟩))
  ·exact .inr (.inr (.inl (UInt8.lt_iff_toNat_lt.2 h)))
def plc (l:List (List UInt8)) (s:List UInt8):Nat->Nat->Nat->Nat
 | 0,lo,_=>lo
 | f+1,lo,hi=>if lo<hi then (if S5 (l.getD (lo+(hi-lo)/2) []) s then plc l s f (lo+(hi-lo)/2+1) hi else plc l s f lo (lo+(hi-lo)/2)) else lo
def C8W (l:List (List UInt8)) (s:List UInt8):∀ f lo hi,lo<=hi->plc l s f lo hi<=hi
 | 0,lo,hi,h=>h
 | f+1,lo,hi,h=>by
  unfold plc;split
  ·split
   ·exact C8W l s f _ hi (by omega)
   ·exact D93 (C8W l s f lo _ (by omega)) (by omega)
  ·exact h
def C1c {l:List (List UInt8)} {s:List UInt8} (hl:l.Pairwise λa b=>S5 a b=A5):∀ f lo hi,lo<=hi->hi<=l.length->hi-lo<=f->(∀ i x,i<lo->l[i]?=A4 x->S5 x s=A5)->(∀ i x,hi<=i->l[i]?=A4 x->S5 x s=A6) ->
  (∀ i x,i<plc l s f lo hi->l[i]?=A4 x->S5 x s=A5)/\(∀ i x,plc l s f lo hi<=i->l[i]?=A4 x->S5 x s=A6)
 | 0,lo,hi,h,_,hf,h1,h2=>by
  have:hi=lo:=by omega
  subst this;exact ⟨h1,h2⟩
 | f+1,lo,hi,h,hh,hf,h1,h2=>by
  unfold plc;by_cases c:lo<hi
  ·rw [if_pos c];have hm:lo+(hi-lo)/2<hi:=by omega
   have hlo:lo<=lo+(hi-lo)/2:=by omega
   generalize lo+(hi-lo)/2=mid at *;have hg:l[mid]?=A4 (l.getD mid []):=by rw [D9z,D9u (by omega)];rfl
   have mono:∀ (i j:Nat) (x y:List UInt8),i<j->l[i]?=A4 x->l[j]?=A4 y->S5 x y=A5:=by
    intro i j x y hij hi hj;rw [List.pairwise_iff_getElem] at hl;obtain ⟨a,rfl⟩:=List.getElem?_eq_some_iff.1 hi;obtain ⟨b,rfl⟩:=List.getElem?_eq_some_iff.1 hj;exact hl i j a b hij
   cases cb:S5 (l.getD mid []) s with
   | true =>
    rw [if_pos rfl];refine C1c hl f (mid+1) hi (by omega) hh (by omega) (λi x hi hx=>?_) h2;by_cases e:i=mid
    ·subst e;rw [hg] at hx;rw [<-Option.some.inj hx];exact cb
    ·exact A75 (mono i mid x _ (by omega) hx hg) cb
   | false =>
    rw [if_neg (by simp)];refine C1c hl f lo mid (by omega) (by omega) (by omega) h1 (λi x hi hx=>?_);by_cases e:i=mid
    ·subst e;rw [hg] at hx;rw [<-Option.some.inj hx];exact cb
    ·cases cx:S5 x s with
     | false=>rfl
     | true=>rw [A75 (mono mid i _ x (by omega) hg hx) cx] at cb;exact cb
  ·rw [if_neg c];have:hi=lo:=by omega
   subst this;exact ⟨h1,h2⟩
def B8t (l:List (List UInt8)) (s:List UInt8) (n:Nat):Bool:=decide (l[n]?=A4 s)
def A8p (l:List (List UInt8)) (i:Nat):(encS l)[i]?=(l[i]?).map λx=>.s x:=by simp [encS]
def B16 {v:Val} {nv q:Nat} {l:List (List UInt8)} {s:List UInt8} {h:A9} (hv:Has h v 1 nv (encS l)) (hn:l.length=nv) (h62:nv<4611686018427387904):∀ f m lo hi:Nat,lo<=hi->hi<=nv->hi-lo<=f->f<m ->
  A28 q m v (.c (.s s)) (iV lo) (iV hi) h=A4 (.t [.c (.i .i64 (plc l s f lo hi:Nat)),.c (.b (B8t l s (plc l s f lo hi)))],h)
 | f,0,lo,hi,_,_,_,hm=>by omega
 | f,m+1,lo,hi,h1,h2,hf,hm=>by
  have hlen:=hv.len;have fin:lo=hi->A28 q (m+1) v (.c (.s s)) (iV lo) (iV hi) h=A4 (.t [.c (.i .i64 lo),.c (.b (B8t l s lo))],h):=by
   intro e;subst e;have c0:¬ (lo:Int)<lo:=by omega
   rw [A4e];unfold B8t;by_cases c1:lo<nv
   ·have c1':(lo:Int)<nv:=by omega
    obtain ⟨id,off,ev,hid,k1,k2⟩:=hv.sl (by omega);have hx:=k1 lo (.s l[lo]) (by rw [A8p,D9u (by omega)];rfl);have eb:E5 1 v (iV (lo:Int))=A4 (pV id (off+lo)):=by rw [ev,D8 (by omega)];simp
    have e2:l[lo]?=A4 l[lo]:=D9u (by omega);rw [e2];simp only [esc,hlen,c0,c1',eb,hx]
   ·have c1':¬ (lo:Int)<nv:=by omega
    have e2:l[lo]?=A7:=D9W (by omega);rw [e2];simp only [esc,hlen,c0,c1',reduceCtorEq]
  cases f with
  | zero =>
   have e:lo=hi:=by omega
   exact fin e
  | succ f =>
   unfold plc;by_cases c:lo<hi
   ·rw [if_pos c];have c':(lo:Int)<hi:=by omega
    obtain ⟨id,off,ev,hid,k1,k2⟩:=hv.sl (by omega);have w1:D9B .i64 ((hi:Int)-lo)=((hi-lo:Nat):Int):=by rw [wrap_i64 (by omega) (by omega)];omega
    have w2:=A5M (a:=((hi-lo:Nat):Int)) (b:=2) (by omega) (by omega) (by omega);have w3:((hi-lo:Nat):Int)/2=(((hi-lo)/2:Nat):Int):=by omega
    rw [w3] at w2;have w4:D9B .i64 ((lo:Int)+(((hi-lo)/2:Nat):Int))=((lo+(hi-lo)/2:Nat):Int):=A09 (by omega);have hm1:lo+(hi-lo)/2<hi:=by omega
    have hm2:lo<=lo+(hi-lo)/2:=by omega
    generalize (hi-lo)/2=d at *;generalize lo+d=mid at *;have hx:=k1 mid (.s l[mid]) (by rw [A8p,D9u (by omega)];rfl);have eb:E5 1 v (iV (mid:Int))=A4 (pV id (off+mid)):=by rw [ev,D8 (by omega)];simp
    have eg:l.getD mid []=l[mid]:=by rw [D9z,D9u (by omega)];rfl
    rw [eg];have hL:=λh=>C4V (a:=l[mid]) (b:=s) (h:=h)
    rw [A4e];cases cb:S5 l[mid] s with
    | true =>
     rw [cb] at hL;have ih:=B16 (q:=q) (s:=s) hv hn h62 f m (mid+1) hi (by omega) h2 (by omega) (by omega);rw [if_pos rfl];simp only [esc,hlen,c',w1,w2,w4,eb,hx,hL,D9 (show mid+1<9223372036854775808 by omega)];exact ih
    | false =>
     rw [cb] at hL;have ih:=B16 (q:=q) (s:=s) hv hn h62 f m lo mid hm2 (by omega) (by omega) (by omega);rw [if_neg (by simp)];simp only [esc,hlen,c',w1,w2,w4,eb,hx,hL];exact ih
   ·rw [if_neg c];exact fin (by omega)
def C2o {v:Val} {nv:Nat} {l:List (List UInt8)} {s:List UInt8} {h:A9} (hv:Has h v 1 nv (encS l)) (h62:nv<4611686018427387904) :
  yT [v,.c (.s s)] h=A4 (.t [.c (.i .i64 (plc l s nv 0 nv:Nat)),.c (.b (B8t l s (plc l s nv 0 nv)))],h):=by
 have hn:l.length=nv:=by simpa [X6] using hv.length
 have key:∀ N,nv<N->∀ g,Has g v 1 nv (encS l)->∃ g',A4W N [v,.c (.s s)] g=A4 (.t [.c (.i .i64 (plc l s nv 0 nv:Nat)),.c (.b (B8t l s (plc l s nv 0 nv)))],g'):=by
  intro N hN g hv;have e:=B16 (q:=N) (s:=s) hv hn h62 nv N 0 nv (by omega) (by omega) (by omega) hN;rw [B72];exact ⟨_,by simp only [esc,hv.len];exact e⟩
 obtain ⟨g',e⟩:=key (nv+1) (by omega) (ro h) hv.ro;exact B20 e rfl
def C7A {id n a:Nat} (ha:a<=n):D0A 1 (sV id 0 n 1) (A4 (iV (a:Int))) A7=A4 (sV id a (n-a) 1):=by
 simp only [D0A,bound];rw [if_pos (by omega)];simp only [D9H,D9N];rw [if_pos ⟨ha,D9x _,trivial⟩];simp
def D2C {H:A9} {id k p:Nat} {out:List (List UInt8)} (hr:rd H id=rT (encS (out++[[]]))) (hk:out.length=k) (hp:p<=k) :
  ∃ c,B9G H 1 (sV id (p+1) (k-p) 1) (sV id p (k+1-p) 1)=A4 (c,H.set id (rT (encS ((out++[[]]).take (p+1)++out.drop p)))):=by
 have hl:(encS (out++[[]])).length=k+1:=by rw [X6];simp [hk]
 have h1:((encS (out++[[]])).drop p).take (k+1-p)=(encS (out++[[]])).drop p:=D9M (by rw [E0f];omega);have h2:Q2 H 1 (sV id p (k+1-p) 1)=A4 ((encS (out++[[]])).drop p):=by
  simp only [Q2,if_true,kY,hr,D9H,Nat.mul_one,h1];rw [if_pos ⟨by omega,by simp⟩]
 have h3:((encS (out++[[]])).drop p).length=k+1-p:=by rw [E0f];omega
 have h4:E0J (k+1-p) (k-p)=k-p:=Nat.min_eq_right (by omega);have h5:lay (encS (out++[[]])) (p+1) (((encS (out++[[]])).drop p).take (k-p))=encS ((out++[[]]).take (p+1)++out.drop p):=by
  unfold lay;have e1:((encS (out++[[]])).drop p).take (k-p)=encS (out.drop p):=by
   unfold encS;rw [E0h,List.drop_append_of_le_length (by simp;omega),List.take_append_of_le_length (by simp;omega),D9M (by simp;omega),List.map_drop]
  have e2:(encS (out++[[]])).drop (p+1+(encS (out.drop p)).length)=[]:=D9K (by rw [hl,X6,E0f];omega);rw [e1,e2];simp only [D9Q,encS,E0h,List.map_take,List.map_drop]
 refine ⟨iV ((k-p:Nat):Int),?_⟩;simp only [B9G,h2,D9H,hr,h3,Nat.div_one,h4,Nat.mul_one,h5];rw [if_pos ⟨trivial,by omega,trivial⟩]
abbrev mC:=List (List UInt8)
def atS (o:mC) (s:List UInt8):Nat:=plc o s o.length 0 o.length
def A38 (o:mC) (s:List UInt8):mC:=bif B8t o s (atS o s) then o else o.take (atS o s)++s::o.drop (atS o s)
def bO (l:mC):mC:=l.foldl A38 []
def D2p (o:mC) (s:List UInt8):atS o s<=o.length:=C8W o s _ _ _ (E0I _)
def B7p (o:mC) (s:List UInt8):(A38 o s).length<=o.length+1:=by
 have:=D2p o s;unfold A38;cases B8t o s (atS o s)<;>simp<;>omega
def C4t (l:mC):∀ o:mC,(l.foldl A38 o).length<=o.length+l.length:=by
 induction l with
 | nil=>intro o;simp
 | cons x l ih =>
  intro o;have h1:=ih (A38 o x);have h2:=B7p o x;simp only [List.foldl_cons,D9G] at h1 ⊢;omega
def A5T (l:mC):(bO l).length<=l.length:=by
 have:=C4t l [];simpa [bO] using this
abbrev Up (l:mC):Prop:=l.Pairwise λa b=>S5 a b=A5
def C5J {o:mC} {s:List UInt8} (ho:Up o):(∀ i x,i<atS o s->o[i]?=A4 x->S5 x s=A5)/\(∀ i x,atS o s<=i->o[i]?=A4 x->S5 x s=A6) :=
 C1c ho o.length 0 o.length (E0I _) (D9x _) (by omega) (λi x hi=>by omega) (λi x hi hx=>by
  have:=(List.getElem?_eq_some_iff.1 hx).1;omega)
def C6E {o:mC} {s:List UInt8} (ho:Up o):B8t o s (atS o s)=A5↔s∈o:=by
 unfold B8t;rw [decide_eq_true_eq];constructor
 ·intro h;exact D9S h
 ·intro h;obtain ⟨i,hi⟩:=List.mem_iff_getElem?.1 h;obtain ⟨h1,h2⟩:=C5J (s:=s) ho;have hge:atS o s<=i:=by
   false_or_by_contra
   have:=h1 i s (by omega) hi;rw [A3J] at this;cases this
  by_cases e:atS o s=i
  ·rw [e];exact hi
  ·have L8:=(List.getElem?_eq_some_iff.1 hi).1;have hg:o[atS o s]?=A4 o[atS o s]:=D9u (by omega);have k1:=h2 _ _ (D9x _) hg;have k2:S5 o[atS o s] s=A5:=by
    obtain ⟨a,ha⟩:=List.getElem?_eq_some_iff.1 hi;have:=List.pairwise_iff_getElem.1 ho (atS o s) i (by omega) a (by omega);rw [ha] at this;exact this
   rw [k1] at k2;cases k2
def D5g {o:mC} {s:List UInt8} (ho:Up o):Up (A38 o s)/\∀ x,x∈A38 o s↔x=s\/x∈o:=by
 unfold A38;cases c:B8t o s (atS o s) with
 | true =>
  have hm:=(C6E ho).1 c;rw [cond_true];exact ⟨ho,λx=>⟨λh=>.inr h,λh=>by rcases h with h | h;subst h;exact hm;exact h⟩⟩
 | false =>
  have hm:s ∉ o:=λh=>by rw [(C6E ho).2 h] at c;cases c
  obtain ⟨h1,h2⟩:=C5J (s:=s) ho;rw [cond_false];refine ⟨C7k (lt:=λa b=>S5 a b=A5) (λa b c=>A75) (λa b=>C2V a b) ho hm (λy hy=>?_) (λy hy=>?_),λx=>mem_insert⟩
  ·obtain ⟨i,hi⟩:=List.mem_iff_getElem?.1 hy;have hl:=(List.getElem?_eq_some_iff.1 hi).1;rw [D91] at hl;rw [D97 (by omega)] at hi;exact h1 i y (by omega) hi
  ·obtain ⟨i,hi⟩:=List.mem_iff_getElem?.1 hy;rw [E0u] at hi;have:=h2 _ y (by omega) hi;rw [this];simp
def C6q (l:mC):∀ o:mC,Up o->Up (l.foldl A38 o)/\∀ x,x∈l.foldl A38 o↔x∈o\/x∈l:=by
 induction l with
 | nil=>intro o ho;exact ⟨ho,λx=>by simp⟩
 | cons y l ih =>
  intro o ho;obtain ⟨h1,h2⟩:=D5g (s:=y) ho;obtain ⟨h3,h4⟩:=ih _ h1;refine ⟨h3,λx=>?_⟩;rw [List.foldl_cons,h4,h2,E0B];constructor
  ·rintro ((h | h) | h)
   ·exact .inr (.inl h)
   ·exact .inl h
   ·exact .inr (.inr h)
  ·rintro (h | h | h)
   ·exact .inl (.inr h)
   ·exact .inl (.inl h)
   ·exact .inr h
def B4s (l:mC):Up (bO l):=(C6q l [] List.Pairwise.nil).1
def kZ (l:mC) (x:List UInt8):x∈bO l↔x∈l:=by
 have:=(C6q l [] List.Pairwise.nil).2 x;simpa [bO] using this
def D7y {l m:mC} (hl:Up l) (hm:Up m) (h:∀ x,x∈l↔x∈m):l=m :=
 C7j (lt:=λa b=>S5 a b=A5) (λa=>by rw [A3J];simp) (λa b c=>A75) hl hm h
def B6n {v:Val} {nv q:Nat} {l:mC} {g:A9} (hv:Has g v 1 nv (encS l)) (hn:l.length=nv) (h62:nv<1073741824):∀ (e i m:Nat) (o:mC) (h:A9) (id:Nat),i+e=nv->e<m->o.length<=i->Low g.length g h->g.length<=id->rd h id=rT (encS o) ->
  ∃ v2 h2,B34 q m (sV id 0 o.length 1) v (iV nv) (iV i) h=A4 (v2,h2)/\Out g.length h2 v2 1 ((l.drop i).foldl A38 o).length (encS ((l.drop i).foldl A38 o))
 | e,i,0,o,h,id,_,hm,_,_,_,_=>by omega
 | 0,i,m+1,o,h,id,hi,hm,hol,hlow,hid,hr=>by
  have e0:i=nv:=by omega
  subst e0;have c0:¬ (i:Int)<i:=by omega
  rw [A6u,D9K (by omega),List.foldl_nil];exact ⟨_,_,by simp only [esc,c0]<;>rfl,by rw [X6];omega,_,rfl,hid,hr⟩
 | e+1,i,m+1,o,h,id,hi,hm,hol,hlow,hid,hr=>by
  have c0:(i:Int)<nv:=by omega
  obtain ⟨jd,off,ev,hjd,k1,k2⟩:=(hv.since hlow).sl (by omega);have hx:=k1 i (.s l[i]) (by rw [A8p,D9u (by omega)];rfl);have eb:E5 1 v (iV (i:Int))=A4 (pV jd (off+i)):=by rw [ev,D8 (by omega)];simp
  have hP:=C2o (s:=l[i]) (Has.row (sz:=1) (n:=o.length) hr (by rw [X6];omega) (C0Y o)) (by omega);rw [D9E (by omega:i<l.length),List.foldl_cons];change yT _ h=A4 (.t [.c (.i .i64 (atS o l[i]:Nat)),.c (.b (B8t o l[i] (atS o l[i])))],h) at hP;have hat:=D2p o l[i];rw [A6u];generalize hs:l[i]=s at *;cases c:B8t o s (atS o s) with
  | true =>
   have ei:A38 o s=o:=by unfold A38;rw [c,cond_true]
   rw [c] at hP;obtain ⟨v2,h2,f1,f2⟩:=B6n (q:=q) hv hn h62 e (i+1) m o h id (by omega) (by omega) (by omega) hlow hid hr;rw [ei];refine ⟨v2,h2,?_,f2⟩;simp only [esc,c0,eb,hx,hP,A6t,D9 (show i+1<9223372036854775808 by omega)];exact f1
  | false =>
   have ei:A38 o s=o.take (atS o s)++s::o.drop (atS o s):=by unfold A38;rw [c,cond_false]
   rw [c] at hP;have il:=B7p o s;generalize hp:atS o s=p at *;obtain ⟨h1,a1,a2,a3,a4,a5⟩:=push (ys:=[.s []]) (sz:=1) (n:=o.length) hlow hr (by rw [X6];omega) hid rfl (by omega) (by omega);have he:encS o++[.s []]=encS (o++[[]]):=by simp [encS]
   rw [he] at a2;have ef:E7 [Cell.s []] [(0,1,.c (.s []))]=A4 [.s []]:=rfl;have w1:D9B .i64 ((p:Int)+1)=((p+1:Nat):Int):=D9 (by omega);have t1:=C7A (id:=h.length+1) (n:=o.length+1) (a:=p+1) (by omega);have t2:=C7A (id:=h.length+1) (n:=o.length+1) (a:=p) (by omega);rw [show o.length+1-(p+1)=o.length-p by omega] at t1;obtain ⟨cc,t3⟩:=D2C (H:=h1) (id:=h.length+1) (k:=o.length) (p:=p) a2 rfl hat;have t4:E5 1 (sV (h.length+1) 0 (o.length+1) 1) (iV (p:Int))=A4 (pV (h.length+1) p):=by rw [D8 (by omega)];simp
   have T1:=D7 a2;have t5:rd (h1.set (h.length+1) (rT (encS ((o++[[]]).take (p+1)++o.drop p)))) (h.length+1)=rT (encS ((o++[[]]).take (p+1)++o.drop p)):=D1 T1;have t6:=I3 (x:=.s s) (off:=p) t5 (by rw [X6,D9A,D91,D9A];simp;omega);have t7:(encS ((o++[[]]).take (p+1)++o.drop p)).set p (.s s)=encS (A38 o s):=by
    rw [ei];have e1:(o++[[]]).take (p+1)=o.take p++[(o++[[]])[p]'(by simp;omega)]:=by
     rw [D9V (by simp;omega),List.take_append_of_le_length hat]
    rw [e1];unfold encS;rw [<-List.map_set]
    congr 1
    rw [D9C,D96 _ _ (by simp;omega),D91,E0F hat,E0p];rfl
   rw [List.set_set,t7] at t6;obtain ⟨v2,h2,f1,f2⟩:=B6n (q:=q) hv hn h62 e (i+1) m (A38 o s) (h1.set (h.length+1) (rT (encS (A38 o s)))) (h.length+1) (by omega) (by omega) (by omega) (a3.set a4 _) a4 (D1 T1);have el:(A38 o s).length=o.length+1:=by rw [ei];simp;omega
   rw [el] at f1;refine ⟨v2,h2,?_,f2⟩;simp only [esc,c0,eb,hx,hP,ef,a1,w1,t1,t2,t3,t4,t6,A6t,D9 (show i+1<9223372036854775808 by omega)];exact f1
def B33 {v:Val} {nv:Nat} {l:mC} {h:A9} (hv:Has h v 1 nv (encS l)) (h62:nv<1073741824) :
  A1F [v] h=A4 (sV h.length 0 (bO l).length 1,h++[rT (encS (bO l))]):=by
 have hn:l.length=nv:=by simpa [X6] using hv.length
 have key:∀ N,nv<N->∀ g,Has g v 1 nv (encS l)->∃ v2 g',A7m N [v] g=A4 (v2,g')/\Out g.length g' v2 1 (bO l).length (encS (bO l)):=by
  intro N hN g hv;obtain ⟨v2,g',f1,f2⟩:=B6n (q:=N) hv hn h62 nv 0 N [] ((g++[rT []])++[rT []]) (g.length+1) (by omega) hN (D9x _) (((Low.refl (D9x _)).new _).new _) (by omega) (by simp [encS]);rw [D9O] at f2;rw [B9a];refine ⟨v2,g',?_,f2⟩;rw [hv.len,E4];simpa using f1
 obtain ⟨v2,g',e,ho⟩:=key (nv+1) (by omega) (ro h) hv.ro;exact B8h e (by simpa [G5] using ho) (by simp)
def I7 (l:List Ent):List Cell:=(l.map λx=>R0 (A4 x)).flatten
def A5x {l:List Ent}:(I7 l).length=l.length*2:=by
 induction l with
 | nil=>rfl
 | cons x l ih=>simp only [I7,E0d,E0l,D9A,R0,D9G,D95] at ih ⊢;omega
def D2V {k:Nat} {x:Ent} {r:List Cell}:List.drop ((k+1)*2) (R0 (A4 x)++r)=List.drop (k*2) r:=by
 rw [show (k+1)*2=k*2+2 by omega];rfl
def B3v:∀ (l:List Ent) (k:Nat) (hk:k<l.length),((I7 l).drop (k*2)).take 2=R0 (A4 l[k])
 | [],k,hk=>by simp at hk
 | x::l,0,_=>rfl
 | x::l,k+1,hk=>by
  have e:I7 (x::l)=R0 (A4 x)++I7 l:=rfl;rw [e,D2V,List.getElem_cons_succ];exact B3v l k (by simpa using hk)
def dK (l:List Ent) (k:Nat):Ent:=l.getD k ([],0)
def B3u {l:List Ent} {k:Nat} (hk:k<l.length):dK l k=l[k]:=by simp [dK,List.getD,hk]
def gD (l:List Ent):Nat->List UInt8
 | 0=>hdB
 | k+1=>G0 (gD l k) (G8 k) (T0 (dK l k).1 (dK l k).2)
def dV {l:List Ent}:∀ k,k<=7->(gD l k).length=256
 | 0,_=>A0P
 | k+1,hk=>by rw [gD,K5 (by rw [dV k (by omega),U2];unfold G8;omega)];exact dV k (by omega)
def atX (b nm:List UInt8):Nat:=match X8 b nm with
 | some x=>x.1
 | none=>0
def D7s {o:Option Slt}:(slC o)[0]?=A4 (.i .i64 ((match o with | some x=>x.1 | none=>0:Nat):Int)):=by cases o<;>rfl
def C3u (l:List Ent) (k:Nat):Bool:=decide (atX (gD l l.length) (dK l k).1=k)
def B4d (l:List Ent):Bool:=(E0g 0 l.length).all (C3u l)
def C2i (l:List Ent):Bool:=l.all λx=>A95 x.1 x.2
def D3G {v:Val} {nv q:Nat} {l:List Ent} {B:A9} {g:Nat} (hv:Has B v 2 nv (I7 l)) (hn:l.length=nv) (h7:nv<=7) (hg:rd B g=rT (B4 (zeros 256))):∀ (e k m:Nat) (h:A9),k+e=nv->e<m->Low B.length B h->rd h B.length=rT (B4 (gD l nv)) ->
  ∃ h',B0v q m (.c (.p g 0)) (.c (.p B.length 0)) v (.c (.i .i64 (nv:Int))) (.c (.i .i64 (k:Int))) h=A4 (.t [.a (B4 (bif (E0g k e).all (C3u l) then gD l nv else zeros 256)),.c (.i .i64 (bif (E0g k e).all (C3u l) then 0 else 5))],h')
 | e,k,0,h,_,hm,_,_=>by omega
 | 0,k,m+1,h,hk,hm,hlow,hr=>by
  have e0:k=nv:=by omega
  subst e0;have c0:¬ (k:Int)<k:=by omega
  have hL:(B4 (gD l k)).length=256:=by rw [B5];exact dV k h7
  have hz:(B4 (zeros 256)).length=256:=by rw [B5];exact zeros_length
  have hrg:=hlow.rd hg;have s1:=C9 hr hL;have s2:=storeAll (xs:=B4 (gD l k)) hrg hz hL;have s3:=C9 (h:=h.set g (rT (B4 (gD l k)))) (id:=g) (D1 (D7 hrg)) hL;rw [A3L,List.range'_zero,List.all_nil,cond_true,cond_true];generalize B4 (gD l k)=y at *;exact ⟨_,by simp only [esc,c0,s1,s2,s3]<;>rfl⟩
 | e+1,k,m+1,h,hk,hm,hlow,hr=>by
  have c0:(k:Int)<nv:=by omega
  have hL:(B4 (gD l nv)).length=256:=by rw [B5];exact dV nv h7
  have hvB:Has h v 2 nv (I7 l):=by
   refine hv.low hlow λid off m he=>?_
   rcases hv with ⟨rfl,_⟩ | ⟨bQ,off',r',rfl,hrd,_⟩
   ·cases he
   ·cases he;exact D7 hrd
  obtain ⟨id,off,ev,hid,k1,k2⟩:=hvB.sl (by omega);have eb:E5 2 v (.c (.i .i64 (k:Int)))=A4 (.c (.p id (off+k*2))):=by rw [ev,D8 (by omega)]
  have hld:=k2 (k*2) 2 (by rw [A5x];omega);rw [B3v l k (by omega),<-B3u (by omega)] at hld;have w1:=D9 (show k+1<9223372036854775808 by omega);have hF:=λh=>A0E (b:=gD l nv) (nm:=(dK l k).1) (h:=h) (dV nv h7)
  have s1:=λt=>C9 (h:=h++t) (B6 hr) hL
  have hat:(slC (X8 (gD l nv) (dK l k).1))[0]?=A4 (.i .i64 (atX (gD l nv) (dK l k).1:Nat)):=D7s;have hSl:=jK (o:=X8 (gD l nv) (dK l k).1);rw [A3L,List.range'_succ,E0j];have hon:C3u l k=decide (atX (gD l nv) (dK l k).1=k):=by unfold C3u;rw [hn]
  rw [hon];generalize slC (X8 (gD l nv) (dK l k).1)=S at *;generalize atX (gD l nv) (dK l k).1=A at *;obtain ⟨h',ih⟩:=D3G (q:=q) hv hn h7 hg e (k+1) m (h++[rT (R0 (A4 (dK l k))),rT S]) (by omega) (by omega) (hlow.new _) (B6 hr);simp only [R0] at *;by_cases c:A=k
  ·subst c;rw [decide_eq_true rfl,D9R];refine ⟨h',?_⟩;generalize B4 (gD l nv)=y at *;simp only [esc,esh,Nat.reduceAdd,c0,eb,hld,s1,hF,hat,hSl,w1];exact ih
  ·rw [decide_eq_false c,D9L,cond_false,cond_false];have c':¬ (A:Int)=k:=by omega
   have hz:(B4 (zeros 256)).length=256:=by rw [B5];exact zeros_length
   have hrg:=λt:A9=>B6 (g:=t) (hlow.rd hg)
   have haf:E7 (D9w 256 (Cell.i .u8 0)) []=A4 (D9w 256 (Cell.i .u8 0)):=rfl;rw [F7] at haf;have s2:=λt=>storeAll (xs:=B4 (zeros 256)) (hrg t) hz hz
   have s3:=λt=>C9 (h:=(h++t).set g (rT (B4 (zeros 256)))) (id:=g) (D1 (D7 (hrg t))) hz
   rw [F7];generalize zeros 256=z at *;generalize B4 (gD l nv)=y at *;exact ⟨_,by simp only [esc,esh,Nat.reduceAdd,c0,eb,hld,s1,hF,hat,hSl,c',haf,s2,s3]<;>rfl⟩
def D3F {v:Val} {nv q:Nat} {l:List Ent} {B:A9} {g:Nat} (hv:Has B v 2 nv (I7 l)) (hn:l.length=nv) (h7:nv<=7) (hs:∀ x∈l,x.1.length<=60) (hg:rd B g=rT (B4 (zeros 256))) (hq:nv<q):∀ (e k m:Nat) (h:A9),k+e=nv->e<m->Low B.length B h->rd h B.length=rT (B4 (gD l k)) ->
  ∃ h',B0u q m v (.c (.p g 0)) (.c (.p B.length 0)) v (.c (.i .i64 (nv:Int))) (.c (.i .i64 (k:Int))) h=A4 (.t [.a (B4 (bif C2i (l.drop k)&&B4d l then gD l nv else zeros 256)),.c (.i .i64 (bif C2i (l.drop k) then (bif B4d l then 0 else 5) else 1))],h')
 | e,k,0,h,_,hm,_,_=>by omega
 | 0,k,m+1,h,hk,hm,hlow,hr=>by
  have e0:k=nv:=by omega
  subst e0;have c0:¬ (k:Int)<k:=by omega
  have hvB:Has h v 2 k (I7 l):=by
   refine hv.low hlow λid off m he=>?_
   rcases hv with ⟨rfl,_⟩ | ⟨bQ,off',r',rfl,hrd,_⟩
   ·cases he
   ·cases he;exact D7 hrd
  obtain ⟨h',e⟩:=D3G (q:=q) hv hn h7 hg k 0 q h (by omega) hq hlow hr;have em:C2i (l.drop k)=A5:=by rw [D9K (by omega)];rfl
  have eo:(E0g 0 k).all (C3u l)=B4d l:=by unfold B4d;rw [hn]
  rw [eo] at e;rw [A3K,em,D9R,cond_true];exact ⟨h',by simp only [esc,c0,hvB.len];exact e⟩
 | e+1,k,m+1,h,hk,hm,hlow,hr=>by
  have c0:(k:Int)<nv:=by omega
  have hNl:=dV (l:=l) k (by omega);have hL:(B4 (gD l k)).length=256:=by rw [B5];exact hNl
  have hvB:Has h v 2 nv (I7 l):=by
   refine hv.low hlow λid off m he=>?_
   rcases hv with ⟨rfl,_⟩ | ⟨bQ,off',r',rfl,hrd,_⟩
   ·cases he
   ·cases he;exact D7 hrd
  obtain ⟨id,off,ev,hid,k1,k2⟩:=hvB.sl (by omega);have eb:E5 2 v (.c (.i .i64 (k:Int)))=A4 (.c (.p id (off+k*2))):=by rw [ev,D8 (by omega)]
  have hld:=k2 (k*2) 2 (by rw [A5x];omega);rw [B3v l k (by omega),<-B3u (by omega)] at hld;have w1:=D9 (show k+1<9223372036854775808 by omega);have hsk:(dK l k).1.length<=60:=by rw [B3u (by omega)];exact hs _ (D9Y _)
  have hM:=λh=>A2W (s:=(dK l k).1) (n:=(dK l k).2) (h:=h) (by omega)
  have hW:=λh=>qS (s:=(dK l k).1) (n:=(dK l k).2) (h:=h) (by omega)
  have hF:=λh=>nB (k:=k) (h:=h) (by omega)
  have hmd:C2i (l.drop k)=(A95 (dK l k).1 (dK l k).2&&C2i (l.drop (k+1))):=by
   rw [D9E (by omega:k<l.length),B3u (by omega)];rfl
  have hEl:(T0 (dK l k).1 (dK l k).2).length=32:=U2;have hLy:=B13 (v:=.c (.sl (h.length+1) 0 32 1)) (nv:=32) (data:=T0 (dK l k).1 (dK l k).2) (l:=gD l k) (h:=h++[rT (R0 (A4 (dK l k))),rT (B4 (T0 (dK l k).1 (dK l k).2))]) (Has.row (rw:=A5) (by simp) (by rw [B5,U2]) (R7 _)) hNl (by rw [hEl];omega) (a:=(G8 k:Nat));have elay:A8Q (gD l k) (G8 k:Nat) (T0 (dK l k).1 (dK l k).2)=gD l (k+1):=by
   unfold A8Q;have:G8 k<256:=by unfold G8;omega
   rw [if_pos ⟨by omega,by omega⟩,D9N,D9M (by rw [hEl];unfold G8;omega)];rfl
  rw [elay] at hLy;have hq2:quiet (h++[rT (R0 (A4 (dK l k)))]) (A4 (.c (.sl (h.length+1) 0 32 1),h++[rT (R0 (A4 (dK l k))),rT (B4 (T0 (dK l k).1 (dK l k).2))]))=_:=D7m;have hrk:∀ t:A9,rd (h++t) B.length=rT (B4 (gD l k)):=λt=>B6 hr
  have s1:=λt=>C9 (h:=h++t) (hrk t) hL
  have hN1:(B4 (gD l (k+1))).length=256:=by rw [B5];exact dV (k+1) (by omega)
  have s2:=λt=>storeAll (h:=h++t) (xs:=B4 (gD l (k+1))) (hrk t) hL hN1
  obtain ⟨h',ih⟩:=D3F (q:=q) hv hn h7 hs hg hq e (k+1) m ((h++[rT (R0 (A4 (dK l k))),rT (B4 (T0 (dK l k).1 (dK l k).2))]).set B.length (rT (B4 (gD l (k+1))))) (by omega) (by omega) ((hlow.new _).set (D9x _) _) (D1 (D7 (hrk _)));rw [A3K,hmd];generalize T0 (dK l k).1 (dK l k).2=E at *;simp only [R0] at *;cases cm:A95 (dK l k).1 (dK l k).2 with
  | true =>
   rw [cm] at hM;rw [D9R];refine ⟨h',?_⟩;generalize B4 (gD l (k+1))=y1 at *;generalize B4 (gD l k)=y at *;simp only [esc,esh,Nat.reduceAdd,c0,eb,hld,hM,hF,hW,hq2,s1,hLy,s2,w1];exact ih
  | false =>
   rw [cm] at hM;rw [D9L,D9L,cond_false,cond_false];have hz:(B4 (zeros 256)).length=256:=by rw [B5];exact zeros_length
   have hrg:=λt:A9=>B6 (g:=t) (hlow.rd hg)
   have haf:E7 (D9w 256 (Cell.i .u8 0)) []=A4 (D9w 256 (Cell.i .u8 0)):=rfl;rw [F7] at haf;have s2:=λt=>storeAll (xs:=B4 (zeros 256)) (hrg t) hz hz
   have s3:=λt=>C9 (h:=(h++t).set g (rT (B4 (zeros 256)))) (id:=g) (D1 (D7 (hrg t))) hz
   rw [F7];generalize zeros 256=z at *;exact ⟨_,by simp only [esc,esh,Nat.reduceAdd,c0,eb,hld,hM,haf,s2,s3]<;>rfl⟩
def C4X (l:List Ent):Int:=if 7<l.length then 11 else if C2i l=A5 then (if B4d l=A5 then 0 else 5) else 1
def cF (l:List Ent):List UInt8:=if C4X l=0 then gD l l.length else zeros 256
def A13 {l:List Ent}:(cF l).length=256:=by
 unfold cF;split
 ·rename_i h;refine dV _ ?_
  false_or_by_contra
  unfold C4X at h;rw [if_pos (by omega)] at h;omega
 ·exact zeros_length
def C1Z {v:Val} {nv:Nat} {l:List Ent} {h:A9} (hv:Has h v 2 nv (I7 l)) (hs:∀ x∈l,x.1.length<=60):A40 [v] h=A4 (.t [.a (B4 (cF l)),.c (.i .i64 (C4X l))],h):=by
 have hn:l.length=nv:=by have:=hv.length;rw [A5x] at this;omega
 have key:∀ g,Has g v 2 nv (I7 l)->∃ g',A4E 8 [v] g=A4 (.t [.a (B4 (cF l)),.c (.i .i64 (C4X l))],g'):=by
  intro g hv;have hz:(B4 (zeros 256)).length=256:=by rw [B5];exact zeros_length
  have hd:(B4 hdB).length=256:=by rw [B5];exact A0P
  have hl:=hv.len;have hH:=λh=>B9S (h:=h)
  rw [B7I,F7];by_cases c:7<nv
  ·have c0:(7:Int)<nv:=by omega
   have e1:C4X l=11:=by unfold C4X;rw [if_pos (by omega)]
   have e2:cF l=zeros 256:=by unfold cF;rw [e1,if_neg (by omega)]
   have haf:E7 (D9w 256 (Cell.i .u8 0)) []=A4 (D9w 256 (Cell.i .u8 0)):=rfl;rw [F7] at haf;rw [e1,e2];generalize zeros 256=z at *;exact ⟨_,by simp only [esc,esh,hl,c0,haf,hz]<;>rfl⟩
  ·have c0:¬ (7:Int)<nv:=by omega
   obtain ⟨h',e⟩:=D3F (q:=8) (B:=g++[rT (B4 (zeros 256))]) (g:=g.length) (hv.more _) hn (by omega) hs (by simp) (by omega) nv 0 8 (g++[rT (B4 (zeros 256)),rT (B4 (gD l 0))]) (by omega) (by omega)
    (by have:=(Low.refl (h:=g++[rT (B4 (zeros 256))]) (D9x _)).new [rT (B4 (gD l 0))];simpa using this) (by simp)
   have e1:C4X l=(bif C2i l then (bif B4d l then 0 else 5) else 1):=by
    unfold C4X;rw [if_neg (by omega)];cases C2i l<;>cases B4d l<;>simp
   have e2:cF l=(bif C2i l&&B4d l then gD l nv else zeros 256):=by
    unfold cF;rw [e1,<-hn];cases C2i l<;>cases B4d l<;>simp
   rw [D9O,<-e1,<-e2] at e;rw [show gD l 0=hdB from rfl] at e;simp only [D9A,D9G,D95,D9T] at e;refine ⟨h',?_⟩;generalize cF l=R at *;generalize hdB=H at *;generalize zeros 256=z at *;simp only [esc,esh,hl,c0,hH,hz,hd];exact e
 obtain ⟨g',e⟩:=key (ro h) hv.ro;exact B2I e (by simp)
def isL (D:Dev) (n k:Int) (d:List Int) (t:Tld):Bool:=decide (B3W D n k d t.2=A4 t.1)
def A30 (D:Dev) (n k:Int) (d:List Int):List Tld:=C4h D (vC D n k d)
def R1 (D:Dev) (n k:Int) (d:List Int) (l:List Tld):mC:=(l.filter (isL D n k d)).map (·.2)
def D05 (D:Dev) (n k:Int) (d:List Int) (s:List UInt8):Int:=((B3W D n k d s).getD (0,0,0)).2.2
def xQ (D:Dev) (n k:Int) (d:List Int):List Ent:=(bO (R1 D n k d (A30 D n k d))).map λs=>(s,D05 D n k d s)
def C9i (D:Dev) (n k:Int) (d:List Int) (l:List Tld):List Plc:=(l.filter λt=>!isL D n k d t).map (·.1)
def B64 {D:Dev} {n k:Int} {d:List Int}:(vC D n k d).length<=32:=by
 have hml:=Q5 (getD (blk D (d.getD 0 0)));have hBl:=oI (O6 (blk D (d.getD 0 0)) 32) (C4 (getD (blk D (d.getD 0 0))));unfold vC;cases A1W D n k d with
 | false=>simp
 | true=>exact D93 (E0m _ _) (by omega)
def MapN (es:Q7) (f:List UInt8->Int) (l:mC):Prop:=(∀ e∈es,∃ s,e.1=.s s)/\∀ s∈l,∃ i,A4b (.s s) es=A4 (i,.c (.i .i64 (f s)))
def C9V {es:Q7} {s:List UInt8} (h:∀ e∈es,∃ s,e.1=Cell.s s):wV A7 (.s s) es=A5:=by
 simp only [wV,oO,D9R,E0k];intro e he;obtain ⟨x,hx⟩:=h e he;rw [hx]
def C91 {k:Cell} {p:Part}:∀ {es:Q7} {i j:Nat} {q:Part},mgo k es i=A4 (j,q)->(es.set (j-i) (k,p)).length=es.length/\mgo k (es.set (j-i) (k,p)) i=A4 (j,p)/\i<=j/\∀ k'≠k,((mgo k' (es.set (j-i) (k,p)) i)=mgo k' es i)
 | [],i,j,q,h=>by simp [mgo] at h
 | e::es,i,j,q,h=>by
  unfold mgo at h;by_cases c:e.1=k
  ·rw [if_pos c] at h;cases h;simp only [E0p,E0w];refine ⟨rfl,by simp [mgo],D9x _,λk' hk'=>?_⟩;have:¬ e.1=k':=λh=>hk' (by rw [<-h,c])
   simp [mgo,this,Ne.symm hk']
  ·rw [if_neg c] at h;obtain ⟨h1,h2,h3,h4⟩:=C91 (p:=p) h;have e1:j-i=(j-(i+1))+1:=by omega
   rw [e1,List.set_cons_succ];refine ⟨by simp,?_,by omega,λk' hk'=>?_⟩
   ·simp only [mgo];rw [if_neg c];exact h2
   ·simp only [mgo];rw [h4 k' hk']
def C6S {k k':Cell} {p:Part}:∀ {es:Q7} {i:Nat},mgo k es i=A7->mgo k' (es++[(k,p)]) i=if k'=k then A4 (i+es.length,p) else mgo k' es i
 | [],i,_=>by
  by_cases c:k'=k
  ·subst c;simp [mgo]
  ·simp [mgo,c,Ne.symm c]
 | e::es,i,h=>by
  unfold mgo at h;by_cases c:e.1=k
  ·rw [if_pos c] at h;cases h
  ·rw [if_neg c] at h;have ih:=C6S (k':=k') (p:=p) h;simp only [D99,mgo,ih];by_cases c2:k'=k
   ·subst c2;rw [if_neg c,if_pos rfl,if_pos rfl,D9G]
    congr 2;omega
   ·simp only [if_neg c2]
def zT {k k':Cell} {p:Part} {es:Q7}:A4b k (A4c k p es)=A4 (((A4b k es).map (·.1)).getD es.length,p)/\(k'≠k->A4b k' (A4c k p es)=A4b k' es):=by
 unfold A4c A4b;cases c:mgo k es 0 with
 | none =>
  simp only [C6S c];exact ⟨by simp,λh=>by rw [if_neg h]⟩
 | some jq =>
  obtain ⟨j,q⟩:=jq;obtain ⟨_,h2,_,h4⟩:=C91 (p:=p) c;simp only [Nat.sub_zero] at h2 h4;exact ⟨by simp [h2],λh=>h4 k' h⟩
def B55 {k:Cell} {p:Part} {es:Q7} {Q:Cell->Prop} (hk:Q k) (h:∀ e∈es,Q e.1):∀ e∈A4c k p es,Q e.1:=by
 intro e he;unfold A4c at he;split at he
 ·rcases List.mem_or_eq_of_mem_set he with he | rfl
  ·exact h e he
  ·exact hk
 ·rcases List.mem_append.1 he with he | he
  ·exact h e he
  ·simp at he;subst he;exact hk
def MapN.nil (f:List UInt8->Int):MapN [] f []:=⟨λe he=>by simp at he,λs hs=>by simp at hs⟩
def MapN.put {es:Q7} {f:List UInt8->Int} {l:mC} (hm:MapN es f l) (s:List UInt8):MapN (A4c (.s s) (.c (.i .i64 (f s))) es) f (l++[s]):=by
 refine ⟨B55 (Q:=λc=>∃ s,c=.s s) ⟨s,rfl⟩ hm.1,λx hx=>?_⟩;by_cases c:x=s
 ·subst c;exact ⟨_,(zT (k':=.mh)).1⟩
 ·rcases List.mem_append.1 hx with hx | hx
  ·obtain ⟨i,hi⟩:=hm.2 x hx;refine ⟨i,?_⟩;rw [(zT (k:=.s s) (k':=.s x)).2 (by simpa using c)];exact hi
  ·simp at hx;exact absurd hx c
def C6N {h:A9} {mid:Nat} {es:Q7} {f:List UInt8->Int} {l:mC} {s:List UInt8} (hr:rd h mid=A4 (K8 es)) (hm:MapN es f l) (hs:s∈l):qN h A7 (.c o0) A6 (.c (.m mid)) (.c (.s s))=A4 (.c (.i .i64 (f s))):=by
 obtain ⟨i,hi⟩:=hm.2 s hs;simp only [qN,B3S,C4O,hr,D9H,kP];rw [if_pos (C9V hm.1),hi];rfl
def D0a {h:A9} {mid:Nat} {es:Q7} {f:List UInt8->Int} {l:mC} {s:List UInt8} {x:Int} (hr:rd h mid=A4 (K8 es)) (hm:MapN es f l):xK h A7 (.c (.m mid)) (.c (.s s)) (.c (.i .i64 x))=A4 (h.set mid (A4 (K8 (A4c (.s s) (.c (.i .i64 x)) es)))):=by
 simp only [xK,B3S,B7y,hr,D9H,kP];rw [if_pos (C9V hm.1)]
def D5v {neg:Bool} (p q:Plc):aeq neg [.i .i64,.i .i64,.i .i64] (.a (A3b (A4 p))) (.a (A3b (A4 q)))=A4 (bV (bif neg then !(decide (A4 p=A4 q)) else decide (A4 p=A4 q))):=by
 simp only [aeq];rw [if_pos ⟨rfl,rfl⟩];have:decide (A3b (A4 p)=A3b (A4 q))=decide (A4 p=A4 q):=by
  apply Bool.eq_iff_iff.2;simp only [decide_eq_true_eq,A3b,List.cons.injEq,Cell.i.injEq,true_and,and_true,D9y];obtain ⟨p1,p2,p3⟩:=p;obtain ⟨q1,q2,q3⟩:=q;simp only [D9D];constructor
  ·rintro ⟨h1,h2,h3⟩;exact ⟨h1,by omega,h3⟩
  ·rintro ⟨h1,h2,h3⟩;exact ⟨h1,by omega,h3⟩
 rw [this]
def B6h {b:List UInt8} {k:Nat} {x:Ent} (h:M4 b k=A4 x):x.1.length<=24:=by
 unfold M4 at h;cases hu:eZ (nameB b k) with
 | none=>rw [hu] at h;cases h
 | some s =>
  rw [hu,D9H] at h;split at h
  ·cases h;exact (aZ (A5X hu)).2
  ·cases h
def zG {b:List UInt8}:∀ {e k:Nat} {x:Slt},x∈N8 b e k->M4 b x.1=A4 x.2/\k<=x.1/\x.1<k+e
 | 0,k,x,h=>by simp [N8] at h
 | e+1,k,x,h=>by
  cases hr:M4 b k with
  | none =>
   rw [Y0 hr] at h;have:=zG h;exact ⟨this.1,by omega,by omega⟩
  | some y =>
   rw [Y4 hr] at h;rcases List.mem_cons.1 h with rfl | h
   ·exact ⟨hr,D9x _,by dsimp only;omega⟩
   ·have:=zG h;exact ⟨this.1,by omega,by omega⟩
def A9A {b:List UInt8} {x:Slt} (h:x∈H9 b):M4 b x.1=A4 x.2/\x.1<7:=by
 have:=zG h;exact ⟨this.1,by omega⟩
def B7s {D:Dev} {n k:Int} {d:List Int} {s:List Tld} {t:Tld}:R1 D n k d (s++[t])=R1 D n k d s++(if isL D n k d t=A5 then [t.2] else []):=by
 unfold R1;rw [List.filter_append,E0h];by_cases c:isL D n k d t=A5
 ·rw [if_pos c,List.filter_cons_of_pos c];rfl
 ·rw [if_neg c,List.filter_cons_of_neg c];rfl
def C0U {D:Dev} {n k:Int} {d:List Int} {s:List Tld}:(R1 D n k d s).length<=s.length:=by
 unfold R1;rw [List.length_map];exact E0m _ _
def RDs (b:Nat):List Nat:=[b,b+1,b+3,b+4,b+5,b+6,b+8]
structure ListP (D:Dev) (n k:Int) (d:List Int) (V I:List Cell) (L:List Int) (g:A9) (rs:List Nat) (c:Nat) (s:List Tld) (h:A9):Prop where
 var:VarC h (g.length+3) (encS (R1 D n k d s)) (R1 D n k d s).length 1 g.length (rs++RDs g.length)
 len:s.length<=c
 low:Low g.length g h
 r0:rd h g.length=rT V
 r1:rd h (g.length+1)=rT I
 r6:rd h (g.length+6)=rT V
 r8:rd h (g.length+8)=rT (encI L)
 r5:rd h (g.length+5)=rT [.m (g.length+4)]
 r4:∃ es,rd h (g.length+4)=A4 (K8 es)/\MapN es (D05 D n k d) (R1 D n k d s)
 rs:∀ j∈rs,g.length+9<=j/\j<h.length
section
variable {D:Dev} {n k:Int} {d:List Int} {V I:List Cell} {L:List Int} {g h:A9} {rs:List Nat} {c:Nat} {s:List Tld}
def ListP.more (P:ListP D n k d V I L g rs c s h) (t:A9):ListP D n k d V I L g rs c s (h++t) where
 var:=P.var.more t λj hj=>.inl hj
 len:=P.len
 low:=P.low.new _
 r0:=B6 P.r0
 r1:=B6 P.r1
 r6:=B6 P.r6
 r8:=B6 P.r8
 r5:=B6 P.r5
 r4:=by obtain ⟨es,h1,h2⟩:=P.r4;exact ⟨es,B6 h1,h2⟩
 rs:=λj hj=>by have:=P.rs j hj;simp;omega
def ListP.one (P:ListP D n k d V I L g rs c s h) (r:Option Row):ListP D n k d V I L g (h.length::rs) c s (h++[r]) where
 var:=P.var.more _ λj hj=>by
  rcases List.mem_cons.1 hj with rfl | hj
  ·exact .inr (D9x _)
  ·exact .inl hj
 len:=P.len
 low:=P.low.new _
 r0:=B6 P.r0
 r1:=B6 P.r1
 r6:=B6 P.r6
 r8:=B6 P.r8
 r5:=B6 P.r5
 r4:=by obtain ⟨es,h1,h2⟩:=P.r4;exact ⟨es,B6 h1,h2⟩
 rs:=λj hj=>by
  have h8:=D7 P.r8;rcases List.mem_cons.1 hj with rfl | hj
  ·simp;omega
  ·have:=P.rs j hj;simp;omega
def ListP.less {i:Nat} (P:ListP D n k d V I L g (i::rs) c s h):ListP D n k d V I L g rs c s h :=
 { P with var:=P.var.fewer λj hj=>D9F _ hj,rs:=λj hj=>P.rs j (D9F _ hj) }
def ListP.wide {c':Nat} (P:ListP D n k d V I L g rs c s h) (hc:c<=c'):ListP D n k d V I L g rs c' s h :=
 { P with len:=D93 P.len hc }
end
def D68 {D:Dev} {n m k l s0 p:Int} {d:List Int} {f:Cell} {L:List Int} {g h:A9} {rs:List Nat} {c:Nat} {s:List Tld} {t:Tld} (hD:okD D) (hd:d.length=7) (hv:IsView g f D) (hc:c<=90000) (ht:t.2.length<=24)
  (P:ListP D n k d (vwC D.length n m f) (D4 k l s0 p d) L g rs c s h) :
  ∃ h',pT [.a (A3b (A4 t.1)),.c (.s t.2),.c (.p g.length 0),.c (.p (g.length+1) 0),.c (.p (g.length+3) 0),.c (.p (g.length+5) 0)] h=A4 (.t [],h')/\ListP D n k d (vwC D.length n m f) (D4 k l s0 p d) L g rs (c+1) (s++[t]) h'/\∀ j∈rs,rd h' j=rd h j:=by
 obtain ⟨⟨p1,p2,p3⟩,nm⟩:=t;have hIl:(D4 k l s0 p d).length=11:=by simp [D4,C1,hd]
 obtain ⟨h1,e1⟩:∃ h1,h1=h++[rT (A3b (A4 (p1,p2,p3)))]:=⟨_,rfl⟩;have n1:h1.length=h.length+1:=by rw [e1];simp
 have P1:ListP D n k d (vwC D.length n m f) (D4 k l s0 p d) L g (h.length::rs) c s h1:=e1 ▸ P.one _;have l4:D3 h1 4 (.c (.p g.length 0))=A4 (.a (vwC D.length n m f)):=C9 P1.r0 rfl;have l11:D3 h1 11 (.c (.p (g.length+1) 0))=A4 (.a (D4 k l s0 p d)):=C9 P1.r1 hIl;have hL:=B8p (n:=n) (m:=m) (k:=k) (l:=l) (s:=s0) (p:=p) (nm:=nm) (h:=h1) hD hd (hv.since P1.low) (by dsimp only at ht;omega);have hl:=D7 P.r8;have keep:∀ (h':A9),(∀ j∈h.length::rs,rd h' j=rd h1 j)->∀ j∈rs,rd h' j=rd h j:=by
  intro h' hk j hj;rw [hk j (D9F _ hj),e1,E2 (P.rs j hj).2]
 obtain ⟨o,eo⟩:∃ o,o=B3W D n k d nm:=⟨_,rfl⟩;rw [<-eo] at hL;obtain ⟨h2,e2⟩:∃ h2,h2=h1++[rT (A3b o)]:=⟨_,rfl⟩;have s3:E9 (h1++[rT [o0,o0,o0]]) 3 (.c (.p h1.length 0)) (.a (A3b o))=A4 h2:=by
  rw [F8,e2];cases o<;>rfl
 have P2:ListP D n k d (vwC D.length n m f) (D4 k l s0 p d) L g (h.length::rs) c s h2:=e2 ▸ P1.more _;have q1:D3 h2 3 (.c (.p h1.length 0))=A4 (.a (A3b o)):=by rw [e2,G6];cases o<;>rfl
 have rp:rd h2 h.length=rT (A3b (A4 (p1,p2,p3))):=by rw [e2,e1];simp
 have q2:D3 h2 3 (.c (.p h.length 0))=A4 (.a (A3b (A4 (p1,p2,p3)))):=C9 rp rfl;have no:isL D n k d ((p1,p2,p3),nm)=A6->R1 D n k d (s++[((p1,p2,p3),nm)])=R1 D n k d s:=λhn=>by
  rw [B7s,hn];simp
 have stay:R1 D n k d (s++[((p1,p2,p3),nm)])=R1 D n k d s->ListP D n k d (vwC D.length n m f) (D4 k l s0 p d) L g rs (c+1) (s++[((p1,p2,p3),nm)]) h2:=λhn=>by
  have:=P2.less;exact { this with var:=by rw [hn];exact this.var,len:=by have:=P.len;simp;omega,r4:=by rw [hn];exact this.r4 }
 have k2:∀ j∈h.length::rs,rd h2 j=rd h1 j:=λj hj=>by
  rw [e2,E2];rcases List.mem_cons.1 hj with rfl | hj
  ·omega
  ·have:=P.rs j hj;omega
 cases o with
 | none =>
  have hn:isL D n k d ((p1,p2,p3),nm)=A6:=by unfold isL;rw [<-eo];simp
  refine ⟨h2,pU (n:=0) ?_,stay (no hn),keep h2 k2⟩;rw [pL];generalize hV:vwC D.length n m f=V at *;generalize hI:D4 k l s0 p d=I at *;simp only [fC,E4,<-e1,l4,l11,hL,A5k,List.getElem?_cons_zero,D9Z,E0b,rD,rC,s3,E0n,D25,A5l,cond_false,dT];rfl
 | some q =>
  have ea:=D5v (neg:=A6) q (p1,p2,p3);by_cases c1:q=(p1,p2,p3)
  ·have hn:isL D n k d ((p1,p2,p3),nm)=A5:=by unfold isL;rw [<-eo,c1];simp
   have hns:R1 D n k d (s++[((p1,p2,p3),nm)])=R1 D n k d s++[nm]:=by rw [B7s,if_pos hn]
   have hin:D05 D n k d nm=p3:=by unfold D05;rw [<-eo,c1];rfl
   subst c1;have h2l:h2.length=h.length+2:=by rw [e2];simp;omega
   obtain ⟨x,v,h3,h4,a1,a2,a3,a4,a5,a6,a7⟩:=P2.var.push (ys:=[.s nm]) (by simp [RDs]) (by omega) (by omega) (by
    intro j hj;rcases List.mem_append.1 hj with hj | hj
    ·exact (P2.rs j hj).2
    ·simp only [RDs,E0B,List.not_mem_nil,or_false] at hj;omega) (by have:=C0U (D:=D) (n:=n) (k:=k) (d:=d) (s:=s);have:=P.len;omega) rfl (by omega)
   have ef:E7 [Cell.s []] [(0,1,.c (.s nm))]=A4 [.s nm]:=rfl;have mem:∀ j,j∈RDs g.length->j≠g.length+3->rd h4 j=rd h2 j:=λj hj Z5=>a6 j (List.mem_append_right _ hj) Z5
   have m5:B8 h4 (.c (.p (g.length+5) 0))=A4 (.c (.m (g.length+4))):=B9 (by rw [mem _ (by simp [RDs]) (by omega)];exact P2.r5) rfl rfl;have m2:B8 h4 (.c (.p h.length 2))=A4 (.c (.i .i64 p3)):=B9 (by rw [a6 h.length (by simp) (by omega)];exact rp) rfl rfl;obtain ⟨es,r4,hm⟩:=P2.r4;have r4':rd h4 (g.length+4)=A4 (K8 es):=by rw [mem _ (by simp [RDs]) (by omega)];exact r4
   have mp:=D0a (s:=nm) (x:=p3) r4' hm;have hm':=hm.put nm;rw [hin] at hm';have lt4:=D7 r4';obtain ⟨h5,e5⟩:∃ h5,h5=h4.set (g.length+4) (A4 (K8 (A4c (.s nm) (.c (.i .i64 p3)) es))):=⟨_,rfl⟩;rw [<-e5] at mp;have oth:∀ j,j≠g.length+4->rd h5 j=rd h4 j:=λj hj=>by rw [e5,B7 (Ne.symm hj)]
   have back:∀ j∈RDs g.length,j≠g.length+3->j≠g.length+4->rd h5 j=rd h2 j:=λj hj h3 h4=>by rw [oth j h4,mem j hj h3]
   refine ⟨h5,pU (n:=0) ?_,⟨?_,?_,?_,?_,?_,?_,?_,?_,?_,?_⟩,keep h5 λj hj=>?_⟩
   ·rw [pL];rw [decide_eq_true rfl] at ea;generalize hV:vwC D.length n m f=V at *;generalize hI:D4 k l s0 p d=I at *;simp only [fC,E4,<-e1,l4,l11,hL,A5k,List.getElem?_cons_zero,D9Z,E0b,rD,rC,s3,D98,C9N,q1,q2,ea,A5l,cond_true,cond_false,fD,a1,ef,a2,a3,m5,qL,D9T,m2,mp];rfl
   ·rw [hns];have e6:encS (R1 D n k d s++[nm])=encS (R1 D n k d s)++[.s nm]:=by simp [encS]
    rw [e6,D9A];have:=a4.keep (h':=h5) (oth _ (by omega)) (λid hid y hy=>by
     rw [oth id (λe=>hid (List.mem_append_right _ (by rw [e];simp [RDs])))];exact hy)
    exact this.fewer λj hj=>by
     rcases List.mem_append.1 hj with hj | hj
     ·exact List.mem_append_left _ (D9F _ hj)
     ·exact List.mem_append_right _ hj
   ·have:=P.len;simp;omega
   ·rw [e5];exact (P2.low.trans a5).set (by omega) _
   ·rw [back _ (by simp [RDs]) (by omega) (by omega)];exact P2.r0
   ·rw [back _ (by simp [RDs]) (by omega) (by omega)];exact P2.r1
   ·rw [back _ (by simp [RDs]) (by omega) (by omega)];exact P2.r6
   ·rw [back _ (by simp [RDs]) (by omega) (by omega)];exact P2.r8
   ·rw [back _ (by simp [RDs]) (by omega) (by omega)];exact P2.r5
   ·exact ⟨_,by rw [e5];exact D1 lt4,by rw [hns];exact hm'⟩
   ·intro j hj;have:=P.rs j hj;have e6:h5.length=h4.length:=by rw [e5];simp
    omega
   ·have hj9:g.length+9<=j:=by
     rcases List.mem_cons.1 hj with rfl | hj
     ·omega
     ·exact (P.rs j hj).1
    rw [oth j (by omega),a6 j (List.mem_append_left _ hj) (by omega),k2 j hj]
  ·have hn:isL D n k d ((p1,p2,p3),nm)=A6:=by unfold isL;rw [<-eo];simpa using c1
   refine ⟨h2,pU (n:=0) ?_,stay (no hn),keep h2 k2⟩;rw [pL];rw [decide_eq_false (by simpa using c1)] at ea;generalize hV:vwC D.length n m f=V at *;generalize hI:D4 k l s0 p d=I at *;simp only [fC,E4,<-e1,l4,l11,hL,A5k,List.getElem?_cons_zero,D9Z,E0b,rD,rC,s3,D98,C9N,q1,q2,ea,A5l,cond_true,cond_false,dT];rfl
def A07 {d:Int} {t:List Int} {n i:Nat} (hn:n<=32):toX (gY d t n) i=if i<n then rH d t i else 0:=by
 unfold toX gY;rw [D9z];by_cases c:i<n
 ·rw [if_pos c,D94 (by simpa using c),E0C,List.getElem?_range c];rfl
 ·rw [if_neg c,D9P (by simp;omega)];unfold zI;rw [List.getElem?_replicate];split<;>rfl
def C6l {d:Int} {t u:List Int} {n:Nat} (hn:n<=32) (h:∀ i,i<n->rH d t i=toX u i) (hu:u.length=32) (h0:∀ i,n<=i->toX u i=0):gY d t n=u:=by
 apply E0q;intro i;by_cases c:i<32
 ·have h1:=iZ (d:=d) (t:=t) hn;rw [B8P (by omega),B8P (by omega),A07 hn];by_cases c2:i<n
  ·rw [if_pos c2,h i c2]
  ·rw [if_neg c2,h0 i (by omega)]
 ·have h1:=iZ (d:=d) (t:=t) hn;rw [D9W (by omega),D9W (by omega)]
def A0B {n:Nat} {t:List Int} {p b:Nat}:A3G n t p b=A5↔toX t p≠0/\∀ k,k<n->k%2 ^ b=p%2 ^ b->toX t k=toX t p:=by
 unfold A3G A5Z S9;simp only [D9v,E0e,decide_eq_false_iff_not,E0k,List.mem_filter,List.mem_range,beq_iff_eq,decide_eq_true_eq];constructor
 ·rintro ⟨h1,h2⟩;exact ⟨h1,λk hk hm=>h2 k ⟨hk,hm⟩⟩
 ·rintro ⟨h1,h2⟩;exact ⟨h1,λk hk=>h2 k hk.1 hk.2⟩
def mH {n:Nat} {t:List Int} {p:Nat}:∀ e b,b<=U1 n t p b e/\U1 n t p b e<=b+e/\(∀ c,b<=c->c<U1 n t p b e->A3G n t p c=A6)/\(U1 n t p b e<b+e->A3G n t p (U1 n t p b e)=A5)
 | 0,b=>⟨D9x _,D9x _,λc h1 h2=>by unfold U1 at h2;omega,λh=>by unfold U1 at h;omega⟩
 | e+1,b=>by
  unfold U1;cases ca:A3G n t p b with
  | true=>exact ⟨D9x _,by rw [cond_true];omega,λc h1 h2=>by rw [cond_true] at h2;omega,λ_=>by rw [cond_true];exact ca⟩
  | false =>
   obtain ⟨h1,h2,h3,h4⟩:=mH (n:=n) (t:=t) (p:=p) e (b+1);rw [cond_false];refine ⟨by omega,by omega,λc k1 k2=>?_,λk=>h4 (by omega)⟩;by_cases e1:c=b
   ·subst e1;exact ca
   ·exact h3 c (by omega) k2
def B8m {n:Nat} {t:List Int} {p b e x:Nat} (h1:b<=x) (h2:x<=b+e) (h3:∀ c,b<=c->c<x->A3G n t p c=A6) (h4:x<b+e->A3G n t p x=A5):U1 n t p b e=x:=by
 obtain ⟨k1,k2,k3,k4⟩:=mH (n:=n) (t:=t) (p:=p) e b;rcases Nat.lt_trichotomy (U1 n t p b e) x with h | h | h
 ·have:=h3 _ k1 h;rw [k4 (by omega)] at this;cases this
 ·exact h
 ·have:=k3 x h1 h;rw [h4 (by omega)] at this;cases this
def B3k {d:Int} {t:List Int} {p:Nat}:S4 d t p<=bK d:=by
 have:=(mH (n:=C4 d) (t:=t) (p:=p) (bK d) 0).2.1;unfold S4;omega
def A74 {d:Int} {t:List Int} {p c:Nat} (h:c<S4 d t p):A3G (C4 d) t p c=A6:=(mH (n:=C4 d) (t:=t) (p:=p) (bK d) 0).2.2.1 c (E0I _) h
def A9n {d:Int} {t:List Int} {p:Nat} (h:S4 d t p<bK d):A3G (C4 d) t p (S4 d t p)=A5:=(mH (n:=C4 d) (t:=t) (p:=p) (bK d) 0).2.2.2 (by unfold S4 at h;omega)
def B3l {d:Int} {t:List Int} {p x:Nat} (h2:x<=bK d) (h3:∀ c,c<x->A3G (C4 d) t p c=A6) (h4:x<bK d->A3G (C4 d) t p x=A5):S4 d t p=x :=
 B8m (E0I _) (by omega) (λc _=>h3 c) (λh=>h4 (by omega))
def B97 {d:Int} {t:List Int} {p k:Nat} (hp:p<C4 d) (hk:k<C4 d) (hm:k%2 ^ S4 d t p=p%2 ^ S4 d t p):toX t k=toX t p:=by
 by_cases c:S4 d t p<bK d
 ·exact (A0B.1 (A9n c)).2 k hk hm
 ·have e:S4 d t p=bK d:=by have:=B3k (d:=d) (t:=t) (p:=p);omega
  rw [e] at hm;unfold C4 at hp hk;rw [E0G hp,E0G hk] at hm;rw [hm]
def C0S {a b c x:Nat} (h:c<=x) (hm:a%2 ^ x=b%2 ^ x):a%2 ^ c=b%2 ^ c:=by
 have hd:2 ^ c ∣ 2 ^ x:=Nat.pow_dvd_pow 2 h;rw [<-Nat.mod_mod_of_dvd a hd,<-Nat.mod_mod_of_dvd b hd,hm]
def C5B {n:Nat} {t:List Int} {p k c:Nat} (hs:toX t k=toX t p) (hm:k%2 ^ c=p%2 ^ c):A3G n t k c=A3G n t p c:=by
 rw [Bool.eq_iff_iff,A0B,A0B,hs,hm]
def C5O {d:Int} {t:List Int} {p k:Nat} (hp:p<C4 d) (hk:k<C4 d) (hm:k%2 ^ S4 d t p=p%2 ^ S4 d t p):S4 d t k=S4 d t p:=by
 have hs:=B97 hp hk hm;refine B3l B3k (λc hc=>?_) (λh=>?_)
 ·rw [C5B hs (C0S (by omega) hm)];exact A74 hc
 ·rw [C5B hs hm];exact A9n h
def C9K {α:Type} {p r:α -> Bool}:∀ {l:List α},(∀ x∈l,p x=A5->r x=A5)->(l.filter p).length<=(l.filter r).length
 | [],_=>by simp
 | y::l,h=>by
  have h1:=C9K (l:=l) λx hx=>h x (D9F _ hx)
  have h2:=h y (D9I ..);simp only [E0H];cases hy:p y with
  | true=>rw [h2 hy];simpa using h1
  | false=>cases r y<;>simp<;>omega
def C9J {α:Type} {p r:α -> Bool}:∀ {l:List α},(∀ x∈l,p x=A5->r x=A5)->(l.filter p).length=(l.filter r).length->∀ x∈l,r x=p x
 | [],_,_,x,hx=>by cases hx
 | y::l,h,he,x,hx=>by
  have h':∀ x∈l,p x=A5->r x=A5:=λx hx=>h x (D9F _ hx)
  have h1:=C9K h';have h2:=h y (D9I ..);simp only [E0H] at he;have key:r y=p y/\(l.filter p).length=(l.filter r).length:=by
   cases hy:p y with
   | true =>
    rw [h2 hy];rw [hy,h2 hy] at he;exact ⟨rfl,by simpa using he⟩
   | false =>
    rw [hy] at he;cases hr:r y with
    | true=>rw [hr] at he;simp at he;omega
    | false=>rw [hr] at he;exact ⟨rfl,by simpa using he⟩
  rcases List.mem_cons.1 hx with e | hx
  ·subst e;exact key.1
  ·exact C9J h' key.2 x hx
def tU {d:Int} {t:List Int} {p:Nat} (hp:p<C4 d):B00 d t p=A5↔∀ k,k<C4 d->toX t k=toX t p->k%2 ^ S4 d t p=p%2 ^ S4 d t p:=by
 unfold B00;rw [decide_eq_true_eq];unfold S9 qW;constructor
 ·intro he k hk hs;have:=C9J (p:=λk=>k%2 ^ S4 d t p==p%2 ^ S4 d t p) (r:=λk=>decide (toX t k=toX t p)) (l:=D90 (C4 d)) (λx hx h=>by
   rw [decide_eq_true_eq];exact B97 hp (List.mem_range.1 hx) (by simpa using h)) he k (List.mem_range.2 hk)
  rw [decide_eq_true hs] at this;simpa using this.symm
 ·intro h
  congr 1
  refine List.filter_congr λk hk=>?_
  have hk:=List.mem_range.1 hk;rw [Bool.eq_iff_iff,decide_eq_true_eq,beq_iff_eq];exact ⟨λhm=>B97 hp hk hm,λhs=>h k hk hs⟩
def cC {t:List Int} {i:Nat}:tK t i=A5↔∀ k,k<i->toX t k≠toX t i:=by
 unfold tK;simp only [E0k,List.mem_range,E0e,decide_eq_false_iff_not]
def tO {d:Int} {t:List Int} {i:Nat}:rA d t i=A5↔toX t i≠0/\B1T (toX t i)=A5/\(tK t i=A5\/B00 d t i=A5):=by
 unfold rA;simp only [D9v,E0e,decide_eq_false_iff_not,E0y]
def C8F {d:Int} {t:List Int} {i:Nat} (hi:i<C4 d) (hk:rA d t i=A5):rA d (gY d t (C4 d)) i=A5:=by
 have hm:=Q5 d;have hg:∀ k,toX (gY d t (C4 d)) k=if k<C4 d then rH d t k else 0:=λk=>A07 hm
 have hgi:toX (gY d t (C4 d)) i=toX t i:=by rw [hg,if_pos hi];unfold rH;rw [hk];rfl
 obtain ⟨h1,h2,h3⟩:=tO.1 hk;have A1c:∀ k,toX (gY d t (C4 d)) k=toX t i->k<C4 d/\toX t k=toX t i:=by
  intro k he;rw [hg] at he;by_cases c:k<C4 d
  ·rw [if_pos c] at he;unfold rH at he;cases ck:rA d t k with
   | true=>rw [ck] at he;exact ⟨c,he⟩
   | false=>rw [ck] at he;exact absurd he.symm h1
  ·rw [if_neg c] at he;exact absurd he.symm h1
 rw [tO,hgi];refine ⟨h1,h2,?_⟩;rcases h3 with h3 | h3
 ·left
  rw [cC,hgi];intro k hki he;exact cC.1 h3 k hki (A1c k he).2
 ·right
  have hw:=(tU hi).1 h3;have hsame:∀ k,k<C4 d->(toX (gY d t (C4 d)) k=toX t i↔toX t k=toX t i):=by
   intro k hkm;refine ⟨λhe=>(A1c k he).2,λhe=>?_⟩;have nQ:=hw k hkm he;have hb:=C5O hi hkm nQ;have:rA d t k=A5:=by
    rw [tO,he];refine ⟨h1,h2,.inr ((tU hkm).2 λj hj hs=>?_)⟩;rw [hb,nQ];exact hw j hj (hs.trans he)
   rw [hg,if_pos hkm];unfold rH;rw [this];exact he
  have jB:∀ c,A3G (C4 d) (gY d t (C4 d)) i c=A3G (C4 d) t i c:=by
   intro c;rw [Bool.eq_iff_iff,A0B,A0B,hgi];exact ⟨λh=>⟨h.1,λk k1 k2=>(hsame k k1).1 (h.2 k k1 k2)⟩,λh=>⟨h.1,λk k1 k2=>(hsame k k1).2 (h.2 k k1 k2)⟩⟩
  have hb:S4 d (gY d t (C4 d)) i=S4 d t i :=
   B3l B3k (λc hc=>by rw [jB];exact A74 hc) (λh=>by rw [jB];exact A9n h)
  rw [tU hi,hb,hgi];intro k hkm he;exact hw k hkm ((hsame k hkm).1 he)
def D0Z {d:Int} {t:List Int} (h:0<=d/\d<=5):A6L d (gY d t (C4 d))=d::gY d t (C4 d):=by
 have hm:=Q5 d;unfold A6L;rw [if_pos h]
 congr 1
 refine C6l hm (λi hi=>?_) (iZ hm) (λi hi=>by rw [A07 hm,if_neg (by omega)]);cases ck:rA d t i with
 | true =>
  have:=C8F hi ck;unfold rH;rw [this];rfl
 | false =>
  have e:toX (gY d t (C4 d)) i=0:=by rw [A07 hm,if_pos hi];unfold rH;rw [ck];rfl
  unfold rH rA;rw [e];rfl
def D00 (d:Int) (t:List Int):∃ e u,A6L d t=e::u/\u.length=32/\A6L e u=e::u/\0<=e/\e<=5/\∀ i,toX u i=0\/toX u i=toX t i:=by
 have hm:=Q5 d;by_cases h:0<=d/\d<=5
 ·refine ⟨d,gY d t (C4 d),by unfold A6L;rw [if_pos h],iZ hm,D0Z h,h.1,h.2,λi=>?_⟩;rw [A07 hm];by_cases c:i<C4 d
  ·rw [if_pos c];unfold rH;cases rA d t i
   ·exact .inl rfl
   ·exact .inr rfl
  ·rw [if_neg c];exact .inl rfl
 ·refine ⟨0,zI 32,by unfold A6L;rw [if_neg h],K4,by decide +kernel,by omega,by omega,λi=>.inl ?_⟩;unfold toX zI;rw [D9z,List.getElem?_replicate];split<;>rfl
def B7A {d:Int} {t:List Int} (h0:0<=d) (h5:d<=5) (h:A6L d t=d::t):B6k d t=A5:=by
 unfold B6k;rw [decide_eq_true h0,decide_eq_true h5,decide_eq_true h];rfl
def C3C {d:Int} {t:List Int}:B6k d t=A5↔0<=d/\d<=5/\A6L d t=d::t:=by
 unfold B6k;simp only [D9v,decide_eq_true_eq]
def C0Q {t:List Int} {x:Int} (hx:x≠0):∀ k,x∈J0 t k↔∃ j,j<k/\toX t j=x
 | 0=>by simp [J0]
 | k+1=>by
  rw [A9o,List.mem_append,C0Q hx k];constructor
  ·rintro (⟨j,h1,h2⟩ | h)
   ·exact ⟨j,by omega,h2⟩
   ·split at h
    ·simp at h;exact ⟨k,by omega,h.symm⟩
    ·cases h
  ·rintro ⟨j,h1,h2⟩;by_cases c:∃ j,j<k/\toX t j=x
   ·exact .inl c
   ·right
    have:j=k:=by
     by_cases e:j=k
     ·exact e
     ·exact absurd ⟨j,by omega,h2⟩ c
    subst this;have hb:qP t j=A5:=by
     unfold qP;rw [D9v];refine ⟨by rw [h2];simp [hx],?_⟩;rw [cC];intro k hk he;exact c ⟨k,hk,he.trans h2⟩
    rw [if_pos hb,h2];simp
def D5e {t:List Int} {i:Nat} (h:toX t i≠0):decide (toX t i∈J0 t i) = !tK t i:=by
 cases c:tK t i with
 | true =>
  rw [Bool.not_true,decide_eq_false];rw [C0Q h];rintro ⟨j,h1,h2⟩;exact cC.1 c j h1 h2
 | false =>
  rw [E0E,decide_eq_true];rw [C0Q h]
  false_or_by_contra
  rename_i hn;have:tK t i=A5:=cC.2 λk hk he=>hn ⟨k,hk,he⟩
  rw [c] at this;cases this
def cR (s:Int):Int:=if s<1 then 0 else if 34304<s then 134 else (s+255)/256
section
variable (n m m2:Nat) (a0 x0 x3 x4:Val) (h:A9)
def zL:FD A8:=⟨px 0X12af203e2a0240000721af4050021a19031829f3001c488390488011c14883e048818044881d2a171281b018181531307024061202971014294203006051111961820134884a17424882481042,[],[],[.tmp 2],[]⟩
def B4M:=zL.R
def C0g:AtH:=zL.lj 0 n [m] [x0,x3,x4]
def C2G:=tT [⟨2,3,C0g⟩]
def C31:=mR B4M zL C2G n [a0] h
def B0B:=mL zL C2G 0 n [m] [x0,x3,x4] h
def C2z:=zL.K Tryz.func13
def B5b:=zL.S
def C1S:A4D B4M B5b:=C2z.out
end
def C4x {h:A9} {v:Val} {D:Dev} (hv:Has h v 256 D.length (C8 D)) (hD:okD D) {i:Nat} (hi:i<D.length) :
  ∃ id off,v=sV id off D.length 256/\id<h.length/\E5 256 v (iV (i:Int))=A4 (pV id (off+i*256))/\D3 h 256 (pV id (off+i*256))=A4 (.a (B4 D[i])):=by
 obtain ⟨id,off,rfl,hid,_,h2⟩:=hv.sl (by omega);refine ⟨id,off,rfl,hid,D8 hi,?_⟩;rw [h2 (i*256) 256 (by rw [F0 hD];omega),kE hD hi]
def C2L {b:List UInt8} (hb:b.length=256):E7 (D9w 256 (Cell.i .u8 0)) [(0,256,.a (B4 b))]=A4 (B4 b):=by
 have hl:(B4 b).length=256:=by rw [B5,hb]
 have hz:(D9w 256 (Cell.i .u8 0)).length=256:=D9X;generalize D9w 256 (Cell.i .u8 0)=z at *;generalize B4 b=y at *;simp only [E7,fC];rw [if_pos ⟨hl,by omega⟩];simp only [lay_all (by omega:y.length=z.length)]
def D0q {g:A9} {D:Dev} {v:Val} {q:Nat} (hv:Has g v 256 D.length (C8 D)) (hD:okD D) (h60:D.length<=1073741823):∀ (e i m id:Nat) (h:A9),i+e=D.length->e<m->Low g.length g h->g.length<=id->rd h id=rT (C8 (D.take i)) ->
  ∃ v' h',C0g q m v (sV id 0 i 256) (iV (i:Int)) h=A4 (v',h')/\Out g.length h' v' 256 D.length (C8 D)
 | e,i,0,id,h,_,hm,_,_,_=>by omega
 | 0,i,m+1,id,h,hi,hm,hlow,hid,hr=>by
  have e0:i=D.length:=by omega
  have c0:¬ (i:Int)<(D.length:Nat):=by omega
  have hl:=(hv.since hlow).len;rw [e0,List.take_length] at hr;rw [B0B];exact ⟨_,_,by simp only [esc,hl,c0]<;>rfl,F0 hD,id,by rw [e0],hid,hr⟩
 | e+1,i,m+1,id,h,hi,hm,hlow,hid,hr=>by
  have L8:i<D.length:=by omega
  have c0:(i:Int)<(D.length:Nat):=by omega
  have hvh:=hv.since hlow;have hl:=hvh.len;obtain ⟨jd,off,e1,hj,a1,l1⟩:=C4x hvh hD L8;have ef:=C2L (hD.at L8);have htl:(D.take i).length=i:=by rw [D91];omega
  obtain ⟨h',p1,p2,p3,p4,p5⟩:=push (ys:=B4 D[i]) hlow hr (by rw [F0 (hD.take i),htl]) hid (by rw [B5,hD.at L8]) (by omega) (by omega);have et:C8 (D.take i)++B4 D[i]=C8 (D.take (i+1)):=by
   rw [D9V L8,C11,C8b]
  rw [et] at p2;obtain ⟨v',h'',f1,f2⟩:=D0q (q:=q) hv hD h60 e (i+1) m (h.length+1) h' (by omega) (by omega) p3 p4 p2;refine ⟨v',h'',?_,f2⟩;rw [B0B];generalize B4 D[i]=y at *;simp only [esc,hl,c0,a1,l1,ef,p1,D9 (show i+1<9223372036854775808 by omega)];exact f1
def D8g {v:Val} {D:Dev} {h:A9} (hv:Has h v 256 D.length (C8 D)) (hD:okD D) (h60:D.length<=1073741823):B5b [v] h=A4 (sV h.length 0 D.length 256,h++[rT (C8 D)]):=by
 have key:∀ g,Has g v 256 D.length (C8 D)->∃ v' g',B4M (D.length+1) [v] g=A4 (v',g')/\Out g.length g' v' 256 D.length (C8 D):=by
  intro g hv;obtain ⟨v',h',f1,f2⟩:=D0q (q:=D.length+1) hv hD h60 D.length 0 (D.length+1) (g.length+1) (g++[rT [],rT []]) (by omega) (by omega) ((Low.refl (D9x _)).new _) (by omega) (by simp [C8]);rw [C31];exact ⟨v',h',by simp only [esc];exact f1,f2⟩
 obtain ⟨v',g',e,ho⟩:=key (ro h) hv.ro;exact C1S e (by simpa [G5] using ho) bL
def C09 {x:Cell} {a n:Nat} {cs:List Cell} {h:A9} (hv:Has h (.c x) 1 n cs) (hn:1<=n) (han:a+n<=256) :
  A2O [.a [.i .i64 a,x]] h=A4 (iV 0,h):=by
 have key:∀ g,Has g (.c x) 1 n cs->∃ g',A2y 0 [.a [.i .i64 a,x]] g=A4 (iV 0,g'):=by
  intro g hv;have c1:¬ (n:Int)<1:=by omega
  have c2:¬ (256:Int)<n:=by omega
  have c3:¬ (a:Int)<0:=by omega
  have e1:D9B .i64 (256-(n:Int))=256-n:=wrap_i64 (by omega) (by omega);have c4:¬ (256:Int)-n<a:=by omega
  rw [B44];exact ⟨_,by simp only [esc,esh,hv.len,c1,c2,c3,e1,c4]<;>rfl⟩
 obtain ⟨g',e⟩:=key (ro h) hv.ro;exact B1x e rfl
def A84 {x:Cell} {n:Nat} {data l:List UInt8} {z:List Cell} {g:A9} (hv:Has g (.c x) 1 n (B4 data)) {a q:Nat} (han:a+n<=256) (hl:l.length=256) (hz:z.length=256) (hn:data.length=n):∀ d i m,i+d=n->d<m ->
  B4h q m (pV g.length 0) (pV (g.length+1) 0) (pV (g.length+2) 0) (.c x) (iV n) (iV i) (g++[rT (B4 (G0 l a (data.take i))),rT [.i .i64 a,x],rT z]) =
   A4 (.a (B4 (G0 l a data)),g++[rT (B4 (G0 l a data)),rT [.i .i64 a,x],rT (B4 (G0 l a data))])
 | d,i,0,_,hm=>by omega
 | 0,i,m+1,hi,hm=>by
  have e0:i=n:=by omega
  subst e0;have c0:¬ (i:Int)<i:=by omega
  have hE:(B4 (G0 l a data)).length=256:=by rw [B5,K5 (by omega),hl]
  rw [A6v,D9M (by omega)];simp only [esc,esh,c0,hE,hz]
 | d+1,i,m+1,hi,hm=>by
  have ih:=A84 hv (z:=z) (q:=q) han hl hz hn d (i+1) m (by omega) (by omega);obtain ⟨id,off,e,hid,h1,h2⟩:=(hv.more [rT (B4 (G0 l a (data.take i))),rT [.i .i64 a,x],rT z]).sl (by omega);cases e;have c0:(i:Int)<n:=by omega
  have hx:=h1 i (.i .u8 data[i].toNat) (by rw [qX,D9u (by omega)];rfl);have eb:E5 1 (sV id off n 1) (iV (i:Int))=A4 (pV id (off+i)):=by rw [D8 (by omega)];simp
  have ea:I5 256 1 (pV g.length 0) (iV ((a+i:Nat):Int))=A4 (pV g.length (a+i)):=by rw [K3 (by omega)];simp
  have hE:(B4 (G0 l a (data.take i))).length=256:=by rw [B5,K5 (by simp;omega),hl]
  have ho:a+i<256:=by omega
  have e5:(G0 l a (data.take i)).set (a+i) data[i]=G0 l a (data.take (i+1)):=by
   have:=A9y (l:=l) (xs:=data.take i) (a:=a) (x:=data[i]) (by simp;omega);rw [D91,E0F (by omega)] at this;rw [this,D9V (by omega)]
  have es:(B4 (G0 l a (data.take i))).set (a+i) (.i .u8 data[i].toNat)=B4 (G0 l a (data.take (i+1))):=by rw [iY,e5]
  rw [A6v];simp only [esc,esh,c0,eb,hx,A09 (show a+i<9223372036854775808 by omega),ea,hE,ho,es,D9 (show i+1<9223372036854775808 by omega)];exact ih
def B4g {x:Cell} {n a:Nat} {data l:List UInt8} {h:A9} (hv:Has h (.c x) 1 n (B4 data)) (hn:1<=n) (han:a+n<=256) (hl:l.length=256) :
  A1G [.a (B4 l),.a [.i .i64 a,x]] h=A4 (.a (B4 (G0 l a data)),h):=by
 have hd:data.length=n:=by simpa [B5] using hv.length
 have key:∀ N,n<N->∀ g,Has g (.c x) 1 n (B4 data)->∃ g',A7n N [.a (B4 l),.a [.i .i64 a,x]] g=A4 (.a (B4 (G0 l a data)),g'):=by
  intro N hN g hv;have hz:(D9w 256 (Cell.i .u8 0)).length=256:=D9X;have hE:(B4 l).length=256:=by rw [B5,hl]
  rw [B9d];generalize D9w 256 (Cell.i .u8 0)=z at *;have e:=A84 hv (l:=l) (z:=z) (q:=N) han hl hz hd n 0 N (by omega) (by omega);simp only [E0z,B3T] at e;have hc:=C09 (hv.more [rT (B4 l),rT [.i .i64 a,x],rT z]) hn han;exact ⟨_,by simp only [esc,esh,Nat.reduceAdd,hE,hz,hc,hv.len];exact e⟩
 obtain ⟨g',e⟩:=key (n+1) (by omega) (ro h) hv.ro;exact B5t e (by simp)
def D0x {a:Int} {x:Cell}:E7 [o0,.ns] [(0,1,iV a),(1,1,.c x)]=A4 [.i .i64 a,x]:=rfl
def C7X:E7 ([]:List Cell) []=A4 []:=rfl
def C1v {j:Nat} {k l s p:Int} {d:List Int} {h:A9} (hd:d.length=7) (h8:j<8) (c:A0Y k l s p d=A5) :
  A2R [iV j,.a (D4 k l s p d)] h=A4 (.t [.a [.i .i64 ((32*j:Nat):Int),.sl h.length 0 32 1],.c o0],h++[rT (B4 (Z6 k l s p d))]):=by
 have key:∀ g,∃ g',A2B 0 [iV j,.a (D4 k l s p d)] g=A4 (.t [.a [.i .i64 ((32*j:Nat):Int),.sl (g.length+4) 0 32 1],.c o0],g')/\rd g' (g.length+4)=rT (B4 (Z6 k l s p d)):=by
  intro g;have c1:¬ (j:Int)<0:=by omega
  have c2:¬ (8:Int)<=j:=by omega
  have hP:=λh=>B3N (k:=k) (l:=l) (s:=s) (p:=p) (h:=h) hd
  simp only [c,cond_true] at hP;have hE:(encI d).length=7:=by rw [C1,hd]
  have hz:(D9w 32 (Cell.i .u8 0)).length=32:=D9X;have hB:(B4 (Z6 k l s p d)).length=32:=by rw [B5,vR hd]
  have w1:D9B .i64 ((j:Int)*32)=((32*j:Nat):Int):=by rw [wrap_i64 (by omega) (by omega)];omega
  have p1:=A72 (h:=g++[rT (D4 k l s p d),rT [o0,.ns],rT (B4 (Z6 k l s p d)),rT []]) (id:=g.length+3) (jd:=g.length+2) (n:=0) (m:=32) (sz:=1) (cs:=[]) (ys:=B4 (Z6 k l s p d)) (rw:=A5) (by simp) (by simp) (by simp) (by rw [hB]) rfl (by omega) (by omega);generalize B4 (Z6 k l s p d)=B at *;simp only [esc] at p1;rw [B47];generalize D9w 32 (Cell.i .u8 0)=z at *;exact ⟨_,by simp only [esc,esh,Nat.reduceAdd,c1,c2,hE,hP,hz,hB,w1,C7X,p1,D0x,E0r]<;>rfl,by simp⟩
 obtain ⟨g',e,hr⟩:=key (ro h);have hr':=hr;rw [G5] at hr';have hc1:M6 g' h.length [] [.i .i64 ((32*j:Nat):Int),.sl ((ro h).length+4) 0 32 1]=A4 ([.i .i64 ((32*j:Nat):Int),.sl h.length 0 32 1],[h.length+4]):=by
  rw [G5];simp [M6,Cell.low,Cell.flat,oQ hr' (by simp:K1 (B4 (Z6 k l s p d))=A5)]
 have hc2:M6 g' h.length [h.length+4] [o0]=A4 ([o0],[h.length+4]):=dS (by simp);have:=B1z e (v2:=.t [.a [.i .i64 ((32*j:Nat):Int),.sl h.length 0 32 1],.c o0]) (ids:=[h.length+4]) (by
  simp only [S8,eJ,hc1,hc2,D9H,E0b])
 rw [this];simp [hr']
def B0X {j:Nat} {k l s p:Int} {d:List Int} {b:List UInt8} {h:A9} (hb:b.length=256) (hd:d.length=7) (h8:j<8) (c:A0Y k l s p d=A5) :
  pZ [.a (B4 b),iV j,.a (D4 k l s p d)] h=A4 (.t [.a (B4 (G0 b (32*j) (Z6 k l s p d))),.c o0],h):=by
 have key:∀ g,∃ g',A4Y 0 [.a (B4 b),iV j,.a (D4 k l s p d)] g=A4 (.t [.a (B4 (G0 b (32*j) (Z6 k l s p d))),.c o0],g'):=by
  intro g;have hB:(B4 b).length=256:=by rw [B5,hb]
  have hE:(encI d).length=7:=by rw [C1,hd]
  have hI:(B4 (Z6 k l s p d)).length=32:=by rw [B5,vR hd]
  have hz:(D9w 256 (Cell.i .u8 0)).length=256:=D9X;have hP:=λh=>C1v (h:=h) hd h8 c
  rw [B74];generalize D9w 256 (Cell.i .u8 0)=z at *;have hL:=B4g (h:=g++[rT (B4 b),rT (D4 k l s p d),rT z,rT (B4 (Z6 k l s p d)),rT [.i .i64 ((32*j:Nat):Int),.sl (g.length+3) 0 32 1]]) (x:=.sl (g.length+3) 0 32 1) (n:=32) (a:=32*j) (data:=Z6 k l s p d) (l:=b) (Has.tr (by simp) (by rw [hI]) (R7 _)) (by omega) (by omega) hb;have hR:(B4 (G0 b (32*j) (Z6 k l s p d))).length=256:=by rw [B5,K5 (by rw [vR hd];omega),hb]
  exact ⟨_,by simp only [esc,esh,Nat.reduceAdd,hB,hE,hz,hP,hL,hR]<;>rfl⟩
 obtain ⟨g',e⟩:=key (ro h);exact B24 e (by simp)
def jJ (b:List UInt8) (j:Nat):List UInt8:=(b.drop (32*j)).take 32
def vZ {b:List UInt8} {j:Nat} (hb:b.length=256) (hj:j<8):(jJ b j).length=32:=by unfold jJ;simp;omega
def C7f {g:A9} {b:List UInt8} {z:List Cell} {j q:Nat} (hb:b.length=256) (hz:z.length=32) (hj:j<8):∀ e i m:Nat,i+e=32->e<m ->
  B4v q m (iV j) (pV g.length 0) (pV (g.length+1) 0) (pV (g.length+2) 0) (iV i) (g++[rT (B4 b),rT z,rT (B4 ((jJ b j).take i++zeros (32-i)))]) =
   A4 (.a (B4 (jJ b j)),g++[rT (B4 b),rT (B4 (jJ b j)),rT (B4 (jJ b j))])
 | e,i,0,_,hm=>by omega
 | 0,i,m+1,hi,hm=>by
  have e0:i=32:=by omega
  subst e0;have h1':¬ ((32:Nat):Int)<32:=by omega
  have hR:=vZ hb hj;have hl:(B4 (jJ b j)).length=32:=by rw [B5,hR]
  have e1:B4 ((jJ b j).take 32++zeros (32-32))=B4 (jJ b j):=by rw [D9M (by omega)];simp [zeros]
  rw [A6x,e1];simp only [esc,esh,h1',hl,hz]
 | e+1,i,m+1,hi,hm=>by
  have ih:=C7f (g:=g) (q:=q) hb hz hj e (i+1) m (by omega) (by omega);have hR:=vZ hb hj;have h1':(i:Int)<32:=by omega
  have w1:D9B .i64 ((j:Int)*32)=((32*j:Nat):Int):=by rw [wrap_i64 (by omega) (by omega)];omega
  have a1:I5 256 1 (pV g.length 0) (iV ((32*j+i:Nat):Int))=A4 (pV g.length (32*j+i)):=by rw [K3 (by omega)];simp
  have a2:I5 32 1 (pV (g.length+2) 0) (iV (i:Int))=A4 (pV (g.length+2) i):=by rw [K3 (by omega)];simp
  have l1:(B4 b)[32*j+i]?=A4 (.i .u8 (jJ b j)[i].toNat):=by
   rw [qX,D9u (by omega)];have:(jJ b j)[i]=b[32*j+i]'(by omega):=by simp [jJ]
   rw [this];rfl
  have ho:i<(B4 ((jJ b j).take i++zeros (32-i))).length:=by rw [B5,D9A,zeros_length,D91];omega
  have es:(B4 ((jJ b j).take i++zeros (32-i))).set i (.i .u8 (jJ b j)[i].toNat)=B4 ((jJ b j).take (i+1)++zeros (32-(i+1))):=by
   rw [iY];refine congrArg B4 ?_;have h6:((jJ b j).take i).length=i:=by simp;omega
   rw [D96 _ _ (by omega),h6,E0p,D9V (by omega),D9C];refine congrArg ((jJ b j).take i ++ ·) ?_;rw [show 32-i=32-(i+1)+1 by omega];unfold zeros;rw [D92,E0w];rfl
  rw [A6x];simp only [esc,esh,h1',w1,A09 (show 32*j+i<9223372036854775808 by omega),a1,a2,l1,ho,es,D9 (show i+1<9223372036854775808 by omega)];exact ih
def C5d {b:List UInt8} {j:Nat} {h:A9} (hb:b.length=256) (hj:j<8):A7P [.a (B4 b),iV j] h=A4 (.a (B4 (jJ b j)),h):=by
 have key:∀ N,32<N->∀ g,∃ g',A7s N [.a (B4 b),iV j] g=A4 (.a (B4 (jJ b j)),g'):=by
  intro N hN g;have c1:¬ (j:Int)<0:=by omega
  have c2:¬ (8:Int)<=j:=by omega
  have hz:(B4 (zeros 32)).length=32:=by rw [B5];exact zeros_length
  have e:=C7f (g:=g) (z:=B4 (zeros 32)) (q:=N) hb hz hj 32 0 N (by omega) (by omega);simp only [E0z,D9U,Nat.sub_zero] at e;rw [B9h,F7];generalize zeros 32=zz at *;exact ⟨_,by simp only [esc,esh,Nat.reduceAdd,c1,c2];exact e⟩
 obtain ⟨g',e⟩:=key (h.length+33) (by omega) (ro h);exact B5y e (by simp)
def A8J:(D4 0 0 0 0 (zI 7)).length=11:=rfl
def C4E:[o0,o0,o0,o0,o0,o0,o0,o0,o0,o0,o0]=D4 0 0 0 0 (zI 7):=rfl
def B9I:E7 (D4 0 0 0 0 (zI 7)) []=A4 (D4 0 0 0 0 (zI 7)):=rfl
def C5c {b:List UInt8} {j:Nat} {h:A9} (hb:b.length=256) (hj:j<8):A7O [.a (B4 b),iV j] h=A4 (.t [.a (lO (jJ b j)),.c (.b (gA (jJ b j)))],h):=by
 have key:∀ g,∃ g',A7r 0 [.a (B4 b),iV j] g=A4 (.t [.a (lO (jJ b j)),.c (.b (gA (jJ b j)))],g'):=by
  intro g;have c1:¬ (j:Int)<0:=by omega
  have c2:¬ (8:Int)<=j:=by omega
  have hB:(B4 b).length=256:=by rw [B5,hb]
  have hR:=λh=>C5d (h:=h) hb hj
  have hC:=λh=>C0E (b:=jJ b j) (h:=h) (vZ hb hj)
  have hl:=A8J;have nQ:=B0z (b:=jJ b j);rw [B9g,C4E];generalize D4 0 0 0 0 (zI 7)=z at *;exact ⟨_,by simp only [esc,esh,c1,c2,hB,hR,hC,hl,nQ]<;>rfl⟩
 obtain ⟨g',e⟩:=key (ro h);exact B5x e (by simp [B3x])
end Go.Proofs.YtbnkgnfhgbhblaaGreat
