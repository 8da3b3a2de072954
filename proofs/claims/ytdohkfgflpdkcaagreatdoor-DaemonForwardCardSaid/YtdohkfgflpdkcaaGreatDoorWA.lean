/-
  PROVED HERE: a part of the proof of DaemonForward (texts W0, W2, W3, W4, W5 of the prover, joined). No condition of its own.
-/
import Derived.Test.YtdohkfgflpdkcaaGreatDoorKL
import Derived.Test.YtdohkfgflpdkcaaGreatDoorSD
import Derived.Test.YtdohkfgflpdkcaaGreatDoorUD
set_option linter.unusedVariables false
set_option linter.unusedSimpArgs false
namespace Go.Proofs.YtdohkfgflpdkcaaGreatDoor.sym
abbrev lotsN:Nat:=9223372036854775807
end Go.Proofs.YtdohkfgflpdkcaaGreatDoor.sym
namespace Go.Proofs.YtdohkfgflpdkcaaGreatDoor.sym
open Go Go.Eng
set_option maxRecDepth 100000
noncomputable def sizesO:O:=.ro (rp 4 (.int .i64 (.ofNat 1))++[.int .i64 (.ofNat 4),.int .i64 (.ofNat 4),.int .i64 (.ofNat 4)]++rp 4 (.int .i64 (.ofNat 8)))
noncomputable def rulP:O:=.cells [UI .i64 (.ofNat 1) (.ofNat 1000000000),UI .i64 (.ofNat 0) (.ofNat 500000),.bool true]
noncomputable def asP (b:Nat):Hp:=[(b,.cells ([dI,uI,uI,pt (b+1),pt (b+2),pt (b+3),pt (b+5)]++rp 6 anyI)),(b+1,.cells [UI .i64 (.ofNat 4) (.ofNat 10),UI .i64 (.ofNat 4) (.ofNat 10),UI .i64 (.ofNat 4) (.ofNat 10),bI,anyI,anyI,tmI,UI .i64 (.ofNat 0) (.ofNat 4611687042427387904),UB,.bool true]),(b+2,.cells ([uI,tmI]++rp 5 uI++[.bool true])),(b+3,rulP),(b+5,.cells ([pt (b+4)]++rp 24 anyI++[UI .i64 (.ofNat 0) (.ofNat 8),anyI,UB])),(b+4,rulP)]
noncomputable def asPs:Nat→Nat→Hp
 |0,_=>[]
 |n+1,b=>asP b++asPs n (b+6)
noncomputable def rowP:Nat→Nat→List Value
 |0,_=>[]
 |n+1,b=>pt b::rowP n (b+6)
noncomputable def leapsO:O:=.frz [anyI,anyI] 0 32 false
noncomputable def srvO (n:Nat):O:=.frz [dI,anyI,anyI] n n false
noncomputable def keysO:O:=.frz [dI,uI,uI] 0 lotsN false
noncomputable def allO:O:=.frz [anyI,anyI] 0 lotsN false
noncomputable def rowV:Nat→Value
 |0=>.slice none 0 0
 |m+1=>.slice (some ⟨72,0,none⟩) (m+1) (18446744073709551616+(m+1))
noncomputable def preL (nil:Bool) (n:Nat):Hp:=(74,leapsO)::([(2,sizesO),(121,srvO n),(122,keysO),(119,allO),
 (64,.cells [pt 65,pt 66,pt 67,pt 68,pt 80,pt 73,pt 71,rowV n,pt 69,pt 70,anyI,anyI,anyI,tmI,anyI,anyI]),
 (65,.cells [uI,uI,.int .u64 (.ofNat 0),UB,.bool true]),(66,.cells [UI .u64 (.ofNat 1) (.ofNat 1000000000000),.int .u64 (.ofNat 0),.int .u64 (.ofNat 0)]),
 (67,.cells [.int .i64 (.ofNat 0),.int .i64 (.ofNat 0),.int .i64 (.ofNat 0),.int .i64 (.ofNat 0),.bool false,.bool true]),
 (68,.cells [anyI,anyI,.bool true]),(69,.cells [UI .i64 (.negSucc 249999) (.ofNat 250000),UI .i64 (.negSucc 499999) (.ofNat 500000),anyI,anyI,.bool true]),
 (70,.cells [anyI,anyI,anyI,UI .i64 (.ofNat 0) (.ofNat 4),anyI,.bool true]),(71,rulP),(73,.cells [(match nil with |true=>.slice none 0 0 |false=>.chan (some 74))]),
 (80,.cells [pt 112,pt 113,.map (some 114),uI,uI]),(112,.cells [.slice none 0 0,.map (some 115),.int .i64 (.ofNat 256)]),(113,.cells [.slice none 0 0,.map (some 116),.int .i64 (.ofNat 256)])]
 ++(match n with |0=>[] |m+1=>[(72,.opn 1 (rowP (m+1) 81))])++asPs n 81)
noncomputable def told (nil:Bool) (n:Nat) (ht:Th):Hp:=(renH (thF ht) (match nil with |true=>(preL true n).tail |false=>preL false n)).getD []
noncomputable def L0 (n:Nat):Hp:=[(66,allO),(65,keysO),(64,srvO n),(2,sizesO)]
abbrev confA (b:Value):List Value:=[.agg ⟨[b,uI,anyI,anyI,anyI,anyI,anyI,anyI,.chan (some 64),.chan (some 65),.chan (some 66),anyI]⟩,uI]
abbrev vErr:Value:=.tuple ⟨[.pointer none,UI .i64 (.ofNat 1) (.ofNat 9)]⟩
abbrev vOk (dn:Nat):Value:=.tuple ⟨[pt dn,.int .i64 (.ofNat 0)]⟩
noncomputable def stM (n:Nat):Hp:=(stR n).filter fun e=>!(Nat.beq e.1 120)
structure WayOk (nil:Bool) (n:Nat) (th ht:Th) (dn:Nat):Prop where
 ok:okT th 123=true
 ren:renH (thF th) (match nil with |true=>(404,leapsO)::told true n ht |false=>told false n ht)=some (preL nil n)
 d:thG th 64=dn∧thG th 121=64∧thG th 122=65∧thG th 119=66
 fs:thF th 64=some 121∧thF th 65=some 122∧thF th 66=some 119∧thF th 400=some 76∧thF th 401=some 77∧thF th 402=some 78∧thF th 403=some 79
 keep:((L0 n).all fun e=>match ofL (told nil n ht) e.1 with |some y=>y.fz |none=>false)=true
 f74:nil=true→thF th 404=some 74
 no:(th.all fun e=>!(Nat.beq e.2 120))=true
structure NewOk (n:Nat) (dn:Nat):Prop where
 main:∃K,ConC P K∧K.f=40∧∃tha hta thb htb,fitsL 67 (useCon K (confA anyI) ⟨trieL (L0 n),67⟩) [(vErr,[],400),(vOk dn,told false n hta,400),(vOk dn,told true n htb,400)]=true∧WayOk false n tha hta dn∧WayOk true n thb htb dn
 low:∃K,ConC P K∧K.f=40∧fitsL 67 (useCon K (confA (UI .i64 (.negSucc 9223372036854775807) (.ofNat 7))) ⟨trieL (L0 n),67⟩) [(vErr,[],400)]=true
 high:∃K,ConC P K∧K.f=40∧fitsL 67 (useCon K (confA (UI .i64 (.ofNat 65) (.ofNat 9223372036854775807))) ⟨trieL (L0 n),67⟩) [(vErr,[],400)]=true
 turnA:turnL noRig (preL false n) [65,66,67] (stM n)=true
 turnB:turnL noRig (preL true n) [65,66,67,73] (stM n)=true
 sm:ofL (stR n) 73=some (.ro [.chan (some 74)])
 law:ofL (stR n) 120=some (.cells [pt 64,anyI,uI,anyI,anyI,anyI,anyI,anyI,anyI,.chan (some 121),.chan (some 122),.chan (some 119),anyI,uI,uI,uI,uI,uI,uI])
def noMap:O→Bool
 |.map _ _=>false
 |_=>true
noncomputable def mapless (k:Con):Con:={k with outs:=k.outs.map fun o=>(o.1,o.2.1.filter (fun e=>noMap e.2),o.2.2)}
def tha_0:Th:=[(64,121),(65,122),(66,119),(70,67),(71,114),(72,80),(73,115),(74,112),(75,116),(76,113),(77,69),(78,64),(82,65),(83,66),(84,68),(85,70),(86,73),(87,74),(97,71),(400,76),(401,77),(402,78),(403,79)]
def hta_0:Th:=[(64,78),(65,82),(66,83),(67,70),(68,84),(69,77),(70,85),(71,97),(73,86),(74,87),(76,400),(77,401),(78,402),(79,403),(80,72),(112,74),(113,76),(114,71),(115,73),(116,75),(119,66),(121,64),(122,65)]
def dna_0:Nat:=78
def tha_1:Th:=[(64,121),(65,122),(66,119),(70,67),(71,114),(72,80),(73,115),(74,112),(75,116),(76,113),(77,69),(78,64),(82,65),(83,66),(84,68),(85,70),(86,73),(87,74),(101,81),(102,82),(103,83),(104,84),(105,86),(106,85),(110,72),(111,71),(400,76),(401,77),(402,78),(403,79)]
def hta_1:Th:=[(64,78),(65,82),(66,83),(67,70),(68,84),(69,77),(70,85),(71,111),(72,110),(73,86),(74,87),(76,400),(77,401),(78,402),(79,403),(80,72),(81,101),(82,102),(83,103),(84,104),(85,106),(86,105),(112,74),(113,76),(114,71),(115,73),(116,75),(119,66),(121,64),(122,65)]
def dna_1:Nat:=78
def tha_2:Th:=[(64,121),(65,122),(66,119),(70,67),(71,114),(72,80),(73,115),(74,112),(75,116),(76,113),(77,69),(78,64),(82,65),(83,66),(84,68),(85,70),(86,73),(87,74),(101,81),(102,82),(103,83),(104,84),(105,86),(106,85),(115,87),(116,88),(117,89),(118,90),(119,92),(120,91),(124,72),(125,71),(400,76),(401,77),(402,78),(403,79)]
def hta_2:Th:=[(64,78),(65,82),(66,83),(67,70),(68,84),(69,77),(70,85),(71,125),(72,124),(73,86),(74,87),(76,400),(77,401),(78,402),(79,403),(80,72),(81,101),(82,102),(83,103),(84,104),(85,106),(86,105),(87,115),(88,116),(89,117),(90,118),(91,120),(92,119),(112,74),(113,76),(114,71),(115,73),(116,75),(119,66),(121,64),(122,65)]
def dna_2:Nat:=78
def tha_3:Th:=[(64,121),(65,122),(66,119),(70,67),(71,114),(72,80),(73,115),(74,112),(75,116),(76,113),(77,69),(78,64),(82,65),(83,66),(84,68),(85,70),(86,73),(87,74),(101,81),(102,82),(103,83),(104,84),(105,86),(106,85),(115,87),(116,88),(117,89),(118,90),(119,92),(120,91),(129,93),(130,94),(131,95),(132,96),(133,98),(134,97),(138,72),(139,71),(400,76),(401,77),(402,78),(403,79)]
def hta_3:Th:=[(64,78),(65,82),(66,83),(67,70),(68,84),(69,77),(70,85),(71,139),(72,138),(73,86),(74,87),(76,400),(77,401),(78,402),(79,403),(80,72),(81,101),(82,102),(83,103),(84,104),(85,106),(86,105),(87,115),(88,116),(89,117),(90,118),(91,120),(92,119),(93,129),(94,130),(95,131),(96,132),(97,134),(98,133),(112,74),(113,76),(114,71),(115,73),(116,75),(119,66),(121,64),(122,65)]
def dna_3:Nat:=78
def tha_4:Th:=[(64,121),(65,122),(66,119),(70,67),(71,114),(72,80),(73,115),(74,112),(75,116),(76,113),(77,69),(78,64),(82,65),(83,66),(84,68),(85,70),(86,73),(87,74),(101,81),(102,82),(103,83),(104,84),(105,86),(106,85),(115,87),(116,88),(117,89),(118,90),(119,92),(120,91),(129,93),(130,94),(131,95),(132,96),(133,98),(134,97),(143,99),(144,100),(145,101),(146,102),(147,104),(148,103),(152,72),(153,71),(400,76),(401,77),(402,78),(403,79)]
def hta_4:Th:=[(64,78),(65,82),(66,83),(67,70),(68,84),(69,77),(70,85),(71,153),(72,152),(73,86),(74,87),(76,400),(77,401),(78,402),(79,403),(80,72),(81,101),(82,102),(83,103),(84,104),(85,106),(86,105),(87,115),(88,116),(89,117),(90,118),(91,120),(92,119),(93,129),(94,130),(95,131),(96,132),(97,134),(98,133),(99,143),(100,144),(101,145),(102,146),(103,148),(104,147),(112,74),(113,76),(114,71),(115,73),(116,75),(119,66),(121,64),(122,65)]
def dna_4:Nat:=78
def tha_5:Th:=[(64,121),(65,122),(66,119),(70,67),(71,114),(72,80),(73,115),(74,112),(75,116),(76,113),(77,69),(78,64),(82,65),(83,66),(84,68),(85,70),(86,73),(87,74),(101,81),(102,82),(103,83),(104,84),(105,86),(106,85),(115,87),(116,88),(117,89),(118,90),(119,92),(120,91),(129,93),(130,94),(131,95),(132,96),(133,98),(134,97),(143,99),(144,100),(145,101),(146,102),(147,104),(148,103),(157,105),(158,106),(159,107),(160,108),(161,110),(162,109),(166,72),(167,71),(400,76),(401,77),(402,78),(403,79)]
def hta_5:Th:=[(64,78),(65,82),(66,83),(67,70),(68,84),(69,77),(70,85),(71,167),(72,166),(73,86),(74,87),(76,400),(77,401),(78,402),(79,403),(80,72),(81,101),(82,102),(83,103),(84,104),(85,106),(86,105),(87,115),(88,116),(89,117),(90,118),(91,120),(92,119),(93,129),(94,130),(95,131),(96,132),(97,134),(98,133),(99,143),(100,144),(101,145),(102,146),(103,148),(104,147),(105,157),(106,158),(107,159),(108,160),(109,162),(110,161),(112,74),(113,76),(114,71),(115,73),(116,75),(119,66),(121,64),(122,65)]
def dna_5:Nat:=78
def thb_0:Th:=[(64,121),(65,122),(66,119),(70,67),(71,114),(72,80),(73,115),(74,112),(75,116),(76,113),(77,69),(78,64),(82,65),(83,66),(84,68),(85,70),(86,73),(94,71),(400,76),(401,77),(402,78),(403,79),(404,74)]
def htb_0:Th:=[(64,78),(65,82),(66,83),(67,70),(68,84),(69,77),(70,85),(71,94),(73,86),(74,404),(76,400),(77,401),(78,402),(79,403),(80,72),(112,74),(113,76),(114,71),(115,73),(116,75),(119,66),(121,64),(122,65)]
def dnb_0:Nat:=78
def thb_1:Th:=[(64,121),(65,122),(66,119),(70,67),(71,114),(72,80),(73,115),(74,112),(75,116),(76,113),(77,69),(78,64),(82,65),(83,66),(84,68),(85,70),(86,73),(98,81),(99,82),(100,83),(101,84),(102,86),(103,85),(107,72),(108,71),(400,76),(401,77),(402,78),(403,79),(404,74)]
def htb_1:Th:=[(64,78),(65,82),(66,83),(67,70),(68,84),(69,77),(70,85),(71,108),(72,107),(73,86),(74,404),(76,400),(77,401),(78,402),(79,403),(80,72),(81,98),(82,99),(83,100),(84,101),(85,103),(86,102),(112,74),(113,76),(114,71),(115,73),(116,75),(119,66),(121,64),(122,65)]
def dnb_1:Nat:=78
def thb_2:Th:=[(64,121),(65,122),(66,119),(70,67),(71,114),(72,80),(73,115),(74,112),(75,116),(76,113),(77,69),(78,64),(82,65),(83,66),(84,68),(85,70),(86,73),(98,81),(99,82),(100,83),(101,84),(102,86),(103,85),(112,87),(113,88),(114,89),(115,90),(116,92),(117,91),(121,72),(122,71),(400,76),(401,77),(402,78),(403,79),(404,74)]
def htb_2:Th:=[(64,78),(65,82),(66,83),(67,70),(68,84),(69,77),(70,85),(71,122),(72,121),(73,86),(74,404),(76,400),(77,401),(78,402),(79,403),(80,72),(81,98),(82,99),(83,100),(84,101),(85,103),(86,102),(87,112),(88,113),(89,114),(90,115),(91,117),(92,116),(112,74),(113,76),(114,71),(115,73),(116,75),(119,66),(121,64),(122,65)]
def dnb_2:Nat:=78
def thb_3:Th:=[(64,121),(65,122),(66,119),(70,67),(71,114),(72,80),(73,115),(74,112),(75,116),(76,113),(77,69),(78,64),(82,65),(83,66),(84,68),(85,70),(86,73),(98,81),(99,82),(100,83),(101,84),(102,86),(103,85),(112,87),(113,88),(114,89),(115,90),(116,92),(117,91),(126,93),(127,94),(128,95),(129,96),(130,98),(131,97),(135,72),(136,71),(400,76),(401,77),(402,78),(403,79),(404,74)]
def htb_3:Th:=[(64,78),(65,82),(66,83),(67,70),(68,84),(69,77),(70,85),(71,136),(72,135),(73,86),(74,404),(76,400),(77,401),(78,402),(79,403),(80,72),(81,98),(82,99),(83,100),(84,101),(85,103),(86,102),(87,112),(88,113),(89,114),(90,115),(91,117),(92,116),(93,126),(94,127),(95,128),(96,129),(97,131),(98,130),(112,74),(113,76),(114,71),(115,73),(116,75),(119,66),(121,64),(122,65)]
def dnb_3:Nat:=78
def thb_4:Th:=[(64,121),(65,122),(66,119),(70,67),(71,114),(72,80),(73,115),(74,112),(75,116),(76,113),(77,69),(78,64),(82,65),(83,66),(84,68),(85,70),(86,73),(98,81),(99,82),(100,83),(101,84),(102,86),(103,85),(112,87),(113,88),(114,89),(115,90),(116,92),(117,91),(126,93),(127,94),(128,95),(129,96),(130,98),(131,97),(140,99),(141,100),(142,101),(143,102),(144,104),(145,103),(149,72),(150,71),(400,76),(401,77),(402,78),(403,79),(404,74)]
def htb_4:Th:=[(64,78),(65,82),(66,83),(67,70),(68,84),(69,77),(70,85),(71,150),(72,149),(73,86),(74,404),(76,400),(77,401),(78,402),(79,403),(80,72),(81,98),(82,99),(83,100),(84,101),(85,103),(86,102),(87,112),(88,113),(89,114),(90,115),(91,117),(92,116),(93,126),(94,127),(95,128),(96,129),(97,131),(98,130),(99,140),(100,141),(101,142),(102,143),(103,145),(104,144),(112,74),(113,76),(114,71),(115,73),(116,75),(119,66),(121,64),(122,65)]
def dnb_4:Nat:=78
def thb_5:Th:=[(64,121),(65,122),(66,119),(70,67),(71,114),(72,80),(73,115),(74,112),(75,116),(76,113),(77,69),(78,64),(82,65),(83,66),(84,68),(85,70),(86,73),(98,81),(99,82),(100,83),(101,84),(102,86),(103,85),(112,87),(113,88),(114,89),(115,90),(116,92),(117,91),(126,93),(127,94),(128,95),(129,96),(130,98),(131,97),(140,99),(141,100),(142,101),(143,102),(144,104),(145,103),(154,105),(155,106),(156,107),(157,108),(158,110),(159,109),(163,72),(164,71),(400,76),(401,77),(402,78),(403,79),(404,74)]
def htb_5:Th:=[(64,78),(65,82),(66,83),(67,70),(68,84),(69,77),(70,85),(71,164),(72,163),(73,86),(74,404),(76,400),(77,401),(78,402),(79,403),(80,72),(81,98),(82,99),(83,100),(84,101),(85,103),(86,102),(87,112),(88,113),(89,114),(90,115),(91,117),(92,116),(93,126),(94,127),(95,128),(96,129),(97,131),(98,130),(99,140),(100,141),(101,142),(102,143),(103,145),(104,144),(105,154),(106,155),(107,156),(108,157),(109,159),(110,158),(112,74),(113,76),(114,71),(115,73),(116,75),(119,66),(121,64),(122,65)]
def dnb_5:Nat:=78
theorem wayA_0:WayOk false 0 tha_0 hta_0 dna_0:=⟨by kernel_rfl,by kernel_rfl,⟨by kernel_rfl,by kernel_rfl,by kernel_rfl,by kernel_rfl⟩,⟨by kernel_rfl,by kernel_rfl,by kernel_rfl,by kernel_rfl,by kernel_rfl,by kernel_rfl,by kernel_rfl⟩,by kernel_rfl,fun h=>(by cases h),by kernel_rfl⟩
theorem wayB_0:WayOk true 0 thb_0 htb_0 dna_0:=⟨by kernel_rfl,by kernel_rfl,⟨by kernel_rfl,by kernel_rfl,by kernel_rfl,by kernel_rfl⟩,⟨by kernel_rfl,by kernel_rfl,by kernel_rfl,by kernel_rfl,by kernel_rfl,by kernel_rfl,by kernel_rfl⟩,by kernel_rfl,fun _=>(by kernel_rfl),by kernel_rfl⟩
theorem newOk_0:NewOk 0 dna_0:=⟨⟨mapless c_new0,ConM.told c_new0_ok (by kernel_rfl) (by kernel_rfl),rfl,tha_0,hta_0,thb_0,htb_0,by kernel_rfl,wayA_0,wayB_0⟩,⟨_,c_newL0_ok,rfl,by kernel_rfl⟩,⟨_,c_newH0_ok,rfl,by kernel_rfl⟩,by kernel_rfl,by kernel_rfl,by kernel_rfl,by kernel_rfl⟩
theorem wayA_1:WayOk false 1 tha_1 hta_1 dna_1:=⟨by kernel_rfl,by kernel_rfl,⟨by kernel_rfl,by kernel_rfl,by kernel_rfl,by kernel_rfl⟩,⟨by kernel_rfl,by kernel_rfl,by kernel_rfl,by kernel_rfl,by kernel_rfl,by kernel_rfl,by kernel_rfl⟩,by kernel_rfl,fun h=>(by cases h),by kernel_rfl⟩
theorem wayB_1:WayOk true 1 thb_1 htb_1 dna_1:=⟨by kernel_rfl,by kernel_rfl,⟨by kernel_rfl,by kernel_rfl,by kernel_rfl,by kernel_rfl⟩,⟨by kernel_rfl,by kernel_rfl,by kernel_rfl,by kernel_rfl,by kernel_rfl,by kernel_rfl,by kernel_rfl⟩,by kernel_rfl,fun _=>(by kernel_rfl),by kernel_rfl⟩
theorem newOk_1:NewOk 1 dna_1:=⟨⟨mapless c_new1,ConM.told c_new1_ok (by kernel_rfl) (by kernel_rfl),rfl,tha_1,hta_1,thb_1,htb_1,by kernel_rfl,wayA_1,wayB_1⟩,⟨_,c_newL1_ok,rfl,by kernel_rfl⟩,⟨_,c_newH1_ok,rfl,by kernel_rfl⟩,by kernel_rfl,by kernel_rfl,by kernel_rfl,by kernel_rfl⟩
theorem wayA_2:WayOk false 2 tha_2 hta_2 dna_2:=⟨by kernel_rfl,by kernel_rfl,⟨by kernel_rfl,by kernel_rfl,by kernel_rfl,by kernel_rfl⟩,⟨by kernel_rfl,by kernel_rfl,by kernel_rfl,by kernel_rfl,by kernel_rfl,by kernel_rfl,by kernel_rfl⟩,by kernel_rfl,fun h=>(by cases h),by kernel_rfl⟩
theorem wayB_2:WayOk true 2 thb_2 htb_2 dna_2:=⟨by kernel_rfl,by kernel_rfl,⟨by kernel_rfl,by kernel_rfl,by kernel_rfl,by kernel_rfl⟩,⟨by kernel_rfl,by kernel_rfl,by kernel_rfl,by kernel_rfl,by kernel_rfl,by kernel_rfl,by kernel_rfl⟩,by kernel_rfl,fun _=>(by kernel_rfl),by kernel_rfl⟩
theorem newOk_2:NewOk 2 dna_2:=⟨⟨mapless c_new2,ConM.told c_new2_ok (by kernel_rfl) (by kernel_rfl),rfl,tha_2,hta_2,thb_2,htb_2,by kernel_rfl,wayA_2,wayB_2⟩,⟨_,c_newL2_ok,rfl,by kernel_rfl⟩,⟨_,c_newH2_ok,rfl,by kernel_rfl⟩,by kernel_rfl,by kernel_rfl,by kernel_rfl,by kernel_rfl⟩
theorem wayA_3:WayOk false 3 tha_3 hta_3 dna_3:=⟨by kernel_rfl,by kernel_rfl,⟨by kernel_rfl,by kernel_rfl,by kernel_rfl,by kernel_rfl⟩,⟨by kernel_rfl,by kernel_rfl,by kernel_rfl,by kernel_rfl,by kernel_rfl,by kernel_rfl,by kernel_rfl⟩,by kernel_rfl,fun h=>(by cases h),by kernel_rfl⟩
theorem wayB_3:WayOk true 3 thb_3 htb_3 dna_3:=⟨by kernel_rfl,by kernel_rfl,⟨by kernel_rfl,by kernel_rfl,by kernel_rfl,by kernel_rfl⟩,⟨by kernel_rfl,by kernel_rfl,by kernel_rfl,by kernel_rfl,by kernel_rfl,by kernel_rfl,by kernel_rfl⟩,by kernel_rfl,fun _=>(by kernel_rfl),by kernel_rfl⟩
theorem newOk_3:NewOk 3 dna_3:=⟨⟨mapless c_new3,ConM.told c_new3_ok (by kernel_rfl) (by kernel_rfl),rfl,tha_3,hta_3,thb_3,htb_3,by kernel_rfl,wayA_3,wayB_3⟩,⟨_,c_newL3_ok,rfl,by kernel_rfl⟩,⟨_,c_newH3_ok,rfl,by kernel_rfl⟩,by kernel_rfl,by kernel_rfl,by kernel_rfl,by kernel_rfl⟩
theorem wayA_4:WayOk false 4 tha_4 hta_4 dna_4:=⟨by kernel_rfl,by kernel_rfl,⟨by kernel_rfl,by kernel_rfl,by kernel_rfl,by kernel_rfl⟩,⟨by kernel_rfl,by kernel_rfl,by kernel_rfl,by kernel_rfl,by kernel_rfl,by kernel_rfl,by kernel_rfl⟩,by kernel_rfl,fun h=>(by cases h),by kernel_rfl⟩
theorem wayB_4:WayOk true 4 thb_4 htb_4 dna_4:=⟨by kernel_rfl,by kernel_rfl,⟨by kernel_rfl,by kernel_rfl,by kernel_rfl,by kernel_rfl⟩,⟨by kernel_rfl,by kernel_rfl,by kernel_rfl,by kernel_rfl,by kernel_rfl,by kernel_rfl,by kernel_rfl⟩,by kernel_rfl,fun _=>(by kernel_rfl),by kernel_rfl⟩
theorem newOk_4:NewOk 4 dna_4:=⟨⟨mapless c_new4,ConM.told c_new4_ok (by kernel_rfl) (by kernel_rfl),rfl,tha_4,hta_4,thb_4,htb_4,by kernel_rfl,wayA_4,wayB_4⟩,⟨_,c_newL4_ok,rfl,by kernel_rfl⟩,⟨_,c_newH4_ok,rfl,by kernel_rfl⟩,by kernel_rfl,by kernel_rfl,by kernel_rfl,by kernel_rfl⟩
theorem wayA_5:WayOk false 5 tha_5 hta_5 dna_5:=⟨by kernel_rfl,by kernel_rfl,⟨by kernel_rfl,by kernel_rfl,by kernel_rfl,by kernel_rfl⟩,⟨by kernel_rfl,by kernel_rfl,by kernel_rfl,by kernel_rfl,by kernel_rfl,by kernel_rfl,by kernel_rfl⟩,by kernel_rfl,fun h=>(by cases h),by kernel_rfl⟩
theorem wayB_5:WayOk true 5 thb_5 htb_5 dna_5:=⟨by kernel_rfl,by kernel_rfl,⟨by kernel_rfl,by kernel_rfl,by kernel_rfl,by kernel_rfl⟩,⟨by kernel_rfl,by kernel_rfl,by kernel_rfl,by kernel_rfl,by kernel_rfl,by kernel_rfl,by kernel_rfl⟩,by kernel_rfl,fun _=>(by kernel_rfl),by kernel_rfl⟩
theorem newOk_5:NewOk 5 dna_5:=⟨⟨mapless c_new5,ConM.told c_new5_ok (by kernel_rfl) (by kernel_rfl),rfl,tha_5,hta_5,thb_5,htb_5,by kernel_rfl,wayA_5,wayB_5⟩,⟨_,c_newL5_ok,rfl,by kernel_rfl⟩,⟨_,c_newH5_ok,rfl,by kernel_rfl⟩,by kernel_rfl,by kernel_rfl,by kernel_rfl,by kernel_rfl⟩
end Go.Proofs.YtdohkfgflpdkcaaGreatDoor.sym
namespace Go.Proofs.YtdohkfgflpdkcaaGreatDoor.sym
open Go Go.Eng
def ListIn (W0:World) (p:List Value) (lo hi:Nat) (v:Value):Prop:=(v= .slice none 0 0∧lo=0)∨(∃a k,v= .slice (some a) 0 k∧lo=0)∨∃b o len cap l ty fr,v= .slice (some ⟨b,o,none⟩) len cap∧W0.heap[b]? =some (.cells ⟨l⟩ ty fr)∧lo≤len∧len≤hi∧len≤cap∧o+cap * p.length≤l.length∧∀k,k < len * p.length→∀c,VR c ((p[k % p.length]?).getD undef) ((l[o+k]?).getD undef)
theorem ListIn.frz {W0 w:World} {p:List Value} {lo hi:Nat} {v:Value} (h:ListIn W0 p lo hi v) (f:Fr [] W0 w) (h2:w.heap[2]? ≠none):∃(B o:Nat) (z:Zt),z.v=v∧v.oneCell'=true∧w.heap[B]? =z.x∧FrzOK B o p lo hi false w.heap[B]? z:=by
 rcases h with ⟨rfl,rfl⟩ |⟨a,k,rfl,rfl⟩ |⟨b,o,len,cap,l,ty,fr,rfl,hh,h1,h3,h4,h5,h6⟩
 ·exact ⟨2,0,{n:=1,x:=w.heap[2]?,v:=.slice none 0 0},rfl,rfl,rfl,h2,.inl ⟨rfl,rfl,.inl rfl⟩⟩
 ·exact ⟨2,0,{n:=1,x:=w.heap[2]?,v:=.slice (some a) 0 k},rfl,rfl,rfl,h2,.inl ⟨rfl,rfl,.inr ⟨a,k,rfl⟩⟩⟩
 ·have hw:w.heap[b]? =_:=f.heap hh (by simp)
  exact ⟨b,o,{n:=p.length,x:=w.heap[b]?,v:=.slice (some ⟨b,o,none⟩) len cap},rfl,rfl,rfl,by rw [hw]; simp,.inr (.inl ⟨len,cap,l,ty,fr,rfl,hw,rfl,h1,h3,h4,h5,fun h=>Bool.noConfusion h,h6⟩)⟩
def Lst (c:Cx) (i:Nat) (v:Value):Prop:=c.av i∧(c.z i).v=v∧v.oneCell'=true
theorem Lst.vr {c:Cx} {i:Nat} {v:Value} (h:Lst c i v):VR c (.chan (some i)) v:=by
 obtain ⟨h1,rfl,h3⟩:=h
 exact .frz h1 h3
theorem Lst.le {c c':Cx} {i:Nat} {v:Value} (h:Lst c i v) (l:Le c c'):Lst c' i v:=by
 obtain ⟨h1,h2,h3⟩:=h
 have:=l i h1
 exact ⟨this.1,by rw [this.2.2.2.2]; exact h2,h3⟩
theorem lists_at {n:Nat} {W0 w:World} {c0:Cx} (A0:At [(2,sizesO)] 64 c0 W0) (f:Fr [] W0 w) {sv kv lv:Value} (hs:ListIn W0 [dI,anyI,anyI] n n sv) (hk:ListIn W0 [dI,uI,uI] 0 lotsN kv) (hl:ListIn W0 [anyI,anyI] 0 lotsN lv):
 ∃c,At (L0 n) 67 c w∧Lst c 64 sv∧Lst c 65 kv∧Lst c 66 lv:=by
 have A:=At.fr A0 f
 have h2:w.heap[2]? ≠none:=by
  have q:=(A.hr.at_ 2 _ rfl).2
  have g:=(A.gl 2 (by decide)).2.1
  rw [g] at q
  obtain ⟨_,_,_,_,_,hh,_⟩:=q
  rw [hh]
  exact fun h=>by cases h
 obtain ⟨B1,o1,z1,rfl,v1,x1,f1⟩:=hs.frz f h2
 obtain ⟨B2,o2,z2,rfl,v2,x2,f2⟩:=hk.frz f h2
 obtain ⟨B3,o3,z3,rfl,v3,x3,f3⟩:=hl.frz f h2
 have A1:=At.adds A B1 o1 z1 (by decide) x1 f1 fun j y hy _=>allFz_ok (L:=[(2,sizesO)]) rfl hy
 have A2:=At.adds A1 B2 o2 z2 (by decide) x2 f2 fun j y hy _=>allFz_ok (L:=[(64,srvO n),(2,sizesO)]) rfl hy
 have A3:=At.adds A2 B3 o3 z3 (by decide) x3 f3 fun j y hy _=>allFz_ok (L:=[(65,keysO),(64,srvO n),(2,sizesO)]) rfl hy
 have l2:=adds_le (c:=Cx.adds c0 64 B1 o1 z1) (i:=65) (B:=B2) (o:=o2) (z:=z2) fun h=>by have:=A1.lt 65 h; omega
 have l3:=adds_le (c:=Cx.adds (Cx.adds c0 64 B1 o1 z1) 65 B2 o2 z2) (i:=66) (B:=B3) (o:=o3) (z:=z3) fun h=>by have:=A2.lt 66 h; omega
 have q1:Lst (Cx.adds c0 64 B1 o1 z1) 64 z1.v:=⟨.inr rfl,by simp [Cx.adds],v1⟩
 have q2:Lst (Cx.adds (Cx.adds c0 64 B1 o1 z1) 65 B2 o2 z2) 65 z2.v:=⟨.inr rfl,by simp [Cx.adds],v2⟩
 exact ⟨_,A3,(q1.le l2).le l3,q2.le l3,⟨.inr rfl,by simp [Cx.adds],v3⟩⟩
theorem l0_fz (n:Nat):allFz (L0 n)=true:=by kernel_rfl
structure Made (W0:World) (n:Nat) (d:Cx) (w:World) (h:Nat) (sv kv lv:Value):Prop where
 st:At (stM n) 123 d w
 no:¬d.av 120
 o:d.o 64=0∧d.o 65=0∧d.o 66=0∧d.o 80=0
 sep:∀j x,ofL (stM n) j=some x→(d.b j=d.b 65→j=65)∧(d.b j=d.b 66→j=66)
 own:∀j x,ofL (stM n) j=some x→(x.fz=false∨j=65∨j=66)→W0.heap.size≤d.b j
 clk:∃τc τs τm rate,Clks (d.b 65) (d.b 66) (d.b 67) τc τs τm h 0 rate 0 false w
 ls:Lst d 121 sv∧Lst d 122 kv∧Lst d 119 lv
theorem ofL_but (k:Nat):∀(L:Hp) (i:Nat),ofL (L.filter fun e=>!(Nat.beq e.1 k)) i=if i=k then none else ofL L i
 |[],i=>by by_cases h:i=k <;> simp [h] <;> rfl
 |(j,x)::r,i=>by
  have ih:=ofL_but k r i
  rw [List.filter_cons,ofL_cons]
  by_cases hj:j=k
  ·subst hj
   rw [if_neg (by simp),ih]
   by_cases hi:i=j
   ·rw [if_pos hi,if_pos hi]
   ·rw [if_neg hi,if_neg hi,if_neg (fun h=>hi h.symm)]
  ·rw [if_pos (by cases hq:Nat.beq j k with |false=>simp [hq] |true=>exact absurd (Nat.eq_of_beq_eq_true hq) hj),ofL_cons,ih]
   by_cases hi:i=k
   ·rw [if_pos hi,if_pos hi,if_neg (fun h=>hj (h.trans hi))]
   ·rw [if_neg hi,if_neg hi]
theorem stM_at {n i:Nat} (hi:i≠120):ofL (stM n) i=ofL (stR n) i:=(ofL_but 120 _ i).trans (if_neg hi)
end Go.Proofs.YtdohkfgflpdkcaaGreatDoor.sym
namespace Go.Proofs.YtdohkfgflpdkcaaGreatDoor.sym
open Go Go.Eng
theorem nat_of {k:IntKind} {lo hi n:Int} (h0:0≤lo) (h1:lo≤n) (h2:n≤hi):∃q:Nat,n=(q:Int)∧(q:Int)≤hi:=⟨n.toNat,by omega,by omega⟩
theorem rigs0 (c:Cx):rigN (Cx.rigs c 0 0 0 0) 79=0∧rigN (Cx.rigs c 0 0 0 0) 76=0∧rigN (Cx.rigs c 0 0 0 0) 77=0∧rigN (Cx.rigs c 0 0 0 0) 78=0:=rigN_at c 0 0 0 0 (by omega) (by omega) (by omega) (by omega)
theorem made_of {n dn:Nat} (k:OkN (stR n)) (N:NewOk n dn) {nil:Bool} {W0 w:World} {c:Cx} (R:At (preL nil n) 123 c w) (av:c.av 76∧c.av 77∧c.av 78∧c.av 79) (no:¬c.av 120) (img:∀j y,ofL (preL nil n) j=some y→y.fz=false→W0.heap.size≤c.b j) {sv kv lv:Value} (l1:Lst c 121 sv) (l2:Lst c 122 kv) (l3:Lst c 119 lv) (hnil:nil=true→Lst c 74 (.slice none 0 0)):
 ∃d h,(d.b 64=c.b 64∧d.o 64=c.o 64)∧Made W0 n d w h sv kv lv:=by
 have e65:ofL (preL nil n) 65=some (.cells [uI,uI,.int .u64 (.ofNat 0),UB,.bool true]):=by cases nil <;> kernel_rfl
 have e66:ofL (preL nil n) 66=some (.cells [UI .u64 (.ofNat 1) (.ofNat 1000000000000),.int .u64 (.ofNat 0),.int .u64 (.ofNat 0)]):=by cases nil <;> kernel_rfl
 have e67:ofL (preL nil n) 67=some (.cells [.int .i64 (.ofNat 0),.int .i64 (.ofNat 0),.int .i64 (.ofNat 0),.int .i64 (.ofNat 0),.bool false,.bool true]):=by cases nil <;> kernel_rfl
 have e64:ofL (preL nil n) 64=some (.cells [pt 65,pt 66,pt 67,pt 68,pt 80,pt 73,pt 71,rowV n,pt 69,pt 70,anyI,anyI,anyI,tmI,anyI,anyI]):=by cases nil <;> kernel_rfl
 have e80:ofL (preL nil n) 80=some (.cells [pt 112,pt 113,.map (some 114),uI,uI]):=by cases nil <;> kernel_rfl
 obtain ⟨_,p64,_,_,τ64,_,_,_,o64,_⟩:=R.hr.at_ 64 _ e64
 obtain ⟨_,p80,_,_,τ80,_,_,_,o80,_⟩:=R.hr.at_ 80 _ e80
 obtain ⟨a65,p65,l65,q65,τc,hh65,hp65,hl65,o65,rfl⟩:=R.hr.at_ 65 _ e65
 obtain ⟨a66,p66,l66,q66,τs,hh66,hp66,hl66,o66,rfl⟩:=R.hr.at_ 66 _ e66
 obtain ⟨a67,p67,l67,q67,τm,hh67,hp67,hl67,o67,rfl⟩:=R.hr.at_ 67 _ e67
 obtain rfl:p65=[]:=List.length_eq_zero_iff.1 (hp65.trans o65)
 obtain rfl:p66=[]:=List.length_eq_zero_iff.1 (hp66.trans o66)
 obtain rfl:p67=[]:=List.length_eq_zero_iff.1 (hp67.trans o67)
 cases hl65 with |cons b0 hl=>cases hl with |cons b1 hl=>cases hl with |cons b2 hl=>cases hl with |cons b3 hl=>cases hl with |cons b4 hl=>cases hl with |nil=>
 cases hl66 with |cons s0 hl=>cases hl with |cons s1 hl=>cases hl with |cons s2 hl=>cases hl with |nil=>
 cases hl67 with |cons m0 hl=>cases hl with |cons m1 hl=>cases hl with |cons m2 hl=>cases hl with |cons m3 hl=>cases hl with |cons m4 hl=>cases hl with |cons m5 hl=>cases hl with |nil=>
 obtain ⟨mask,rfl,k0,k1⟩:=ui_of b0
 obtain ⟨last,rfl,k2,k3⟩:=ui_of b1
 cases b2
 obtain ⟨cf,rfl⟩:=ub_of b3
 cases b4
 obtain ⟨h,rfl,k4,k5⟩:=ui_of s0
 cases s1
 cases s2
 cases m0; cases m1; cases m2; cases m3; cases m4; cases m5
 obtain ⟨mask,rfl,k1⟩:=nat_of (k:=.u64) (Int.le_refl 0) k0 k1
 obtain ⟨last,rfl,k3⟩:=nat_of (k:=.u64) (Int.le_refl 0) k2 k3
 obtain ⟨h,rfl,k5⟩:=nat_of (k:=.u64) (show (0:Int)≤Int.ofNat 1 by decide) k4 k5
 have k4:(1:Int)≤(h:Int):=k4
 have k1:(mask:Int)≤18446744073709551615:=k1
 have k3:(last:Int)≤18446744073709551615:=k3
 have k5:(h:Int)≤1000000000000:=k5
 have kc:=rigs_carry c 0 0 0 0
 obtain ⟨v79,v76,v77,v78⟩:=rigs0 c
 have sh:=k.o.ok.sh
 have special:∀i x,(i=65∨i=66∨i=67)→ofL (stM n) i=some x→noRig i=some i∧∃y,ofL (preL nil n) i=some y∧(y.fz=true→x.fz=true)∧OR (Cx.rigs c 0 0 0 0) i x w.heap[c.b i]? :=by
  rintro i x (rfl |rfl |rfl) hx
  ·rw [stM_at (by decide),sh.cnt] at hx
   cases hx
   exact ⟨rfl,_,e65,(fun h=>by cases h),[],_,[],τc,(0,0),hh65,o65.symm,.cons (.ui _ _ (Int.natCast_nonneg _) k1) (.cons (.ui _ _ (Int.natCast_nonneg _) k3) (.cons (.ui _ _ (Int.le_refl _) (by decide)) (.cons (.ub cf) (.cons (.bool true) .nil))))⟩
  ·rw [stM_at (by decide),sh.sc] at hx
   cases hx
   exact ⟨rfl,_,e66,(fun h=>by cases h),[],_,[],τs,(0,0),hh66,o66.symm,.cons (.ui _ _ k4 k5) (.cons (.rig _ _ av.2.2.2 (by decide) (by decide) v79.symm) (.cons (.ui _ _ (Int.le_refl _) (by decide)) .nil))⟩
  ·rw [stM_at (by decide),sh.mon] at hx
   cases hx
   exact ⟨rfl,_,e67,(fun h=>by cases h),[],_,[],τm,hh67,o67.symm,.cons (.rig _ _ av.1 (by decide) (by decide) v76.symm) (.cons (.rig _ _ av.2.1 (by decide) (by decide) v77.symm) (.cons (.ui _ _ (by decide) (by decide)) (.cons (.rig _ _ av.2.2.1 (by decide) (by decide) v78.symm) (.cons (.ub false) (.cons (.bool true) .nil))))),o67,rfl⟩
 have special73:nil=true→∀x,ofL (stM n) 73=some x→noRig 73=some 73∧∃y,ofL (preL nil n) 73=some y∧(y.fz=true→x.fz=true)∧OR (Cx.rigs c 0 0 0 0) 73 x w.heap[c.b 73]? :=by
  rintro hn x hx
  subst hn
  rw [stM_at (by decide),N.sm] at hx
  cases hx
  have e73:ofL (preL true n) 73=some (.cells [.slice none 0 0]):=by kernel_rfl
  obtain ⟨a73,p73,l73,q73,τ73,hh73,hp73,hl73,o73,rfl⟩:=R.hr.at_ 73 _ e73
  obtain rfl:p73=[]:=List.length_eq_zero_iff.1 (hp73.trans o73)
  cases hl73 with |cons t0 hl=>cases hl with |nil=>
  cases t0
  have q:=(hnil rfl)
  have q':Lst (Cx.rigs c 0 0 0 0) 74 (.slice none 0 0):=⟨q.1,q.2.1,q.2.2⟩
  exact ⟨rfl,_,e73,(fun h=>by cases h),[],_,[],τ73,(0,0),hh73,o73.symm,.cons q'.vr .nil⟩
 obtain ⟨sp,ht,hsp⟩:∃sp,turnL noRig (preL nil n) sp (stM n)=true∧∀i,i∈sp→(i=65∨i=66∨i=67)∨(i=73∧nil=true):=by
  cases nil with
  |false=>exact ⟨_,N.turnA,fun i hi=>by simp at hi; omega⟩
  |true=>exact ⟨_,N.turnB,fun i hi=>by simp at hi ⊢; omega⟩
 have hs:∀i x,i∈sp→ofL (stM n) i=some x→noRig i=some i∧∃y,ofL (preL nil n) i=some y∧(y.fz=true→x.fz=true)∧OR (Cx.rigs c 0 0 0 0) i x w.heap[c.b i]? :=fun i x hi hx=>by
  rcases hsp i hi with h |⟨rfl,h⟩
  ·exact special i x h hx
  ·exact special73 h x hx
 have T:At (stM n) 123 (Cx.rigs c 0 0 0 0) w:=At.turn R kc (fun g hg=>R.gl g hg) R.lt ht hs
 have back:∀i x,ofL (stM n) i=some x→∃y,ofL (preL nil n) i=some y∧(y.fz=true→x.fz=true):=fun i x hx=>by
  rcases turnL_ok ht i x hx with hi |⟨_,y,z,hy,hz,hxz⟩
  ·obtain ⟨_,y,hy,h2,_⟩:=hs i x hi hx
   exact ⟨y,hy,h2⟩
  ·rcases hxz with rfl |rfl
   ·exact ⟨y,hy,fun h=>by rw [renO_fz hz]; exact h⟩
   ·exact ⟨y,hy,fun h=>fz_roP (by rw [renO_fz hz]; exact h)⟩
 refine ⟨Cx.rigs c 0 0 0 0,h,⟨rfl,rfl⟩,T,no,⟨o64,o65,o66,o80⟩,fun j x hx=>?_,fun j x hx hz=>?_,⟨τc,τs,τm,0,⟨mask,last,0,cf,⟨by omega,by omega,by omega⟩,hh65⟩,⟨0,by omega,hh66⟩,⟨by omega,by omega,by omega⟩,0,0,⟨by omega,by omega,by omega,by omega,by omega,by omega,by omega,by omega⟩,hh67⟩,⟨l1.1,l1.2.1,l1.2.2⟩,⟨l2.1,l2.2.1,l2.2.2⟩,⟨l3.1,l3.2.1,l3.2.2⟩⟩
 ·obtain ⟨y,hy,_⟩:=back j x hx
  refine ⟨fun e=>?_,fun e=>?_⟩
  ·rcases R.hr.inj j 65 _ _ hy e65 e with h |h
   ·exact h
   ·cases h.2
  ·rcases R.hr.inj j 66 _ _ hy e66 e with h |h
   ·exact h
   ·cases h.2
 ·obtain ⟨y,hy,hyz⟩:=back j x hx
  refine img j y hy ?_
  rcases hz with hz |rfl |rfl
  ·cases hf:y.fz with
   |false=>rfl
   |true=>rw [hyz hf] at hz; cases hz
  ·rw [e65] at hy; cases hy; rfl
  ·rw [e66] at hy; cases hy; rfl
end Go.Proofs.YtdohkfgflpdkcaaGreatDoor.sym
namespace Go.Proofs.YtdohkfgflpdkcaaGreatDoor.sym
open Go Go.Eng
theorem err_of {c:Cx} {v:Value} (h:VR c vErr v):∃k,v= .tuple #[.pointer none,.int .i64 k]∧1≤k:=by
 cases h with |tuple h=>cases h with |cons h0 h=>cases h with |cons h1 h=>cases h with |nil=>
 cases h0
 obtain ⟨k,rfl,h2,_⟩:=ui_of h1
 exact ⟨k,rfl,h2⟩
theorem stays_fr {n:Nat} {c:Cx} {w w':World} (s:Stays (L0 n) c w w'):Fr [] w w':=⟨s.os,s.tape,s.output,s.size,fun k hk _=>s.block k hk fun i x hx _=>allFz_ok (l0_fz n) hx⟩
theorem via_lst {c:Cx} {th:Th} {i j:Nat} {v:Value} (hf:thF th i=some j) (hg:thG th j=i) (h:Lst c i v):Lst (c.via th) j v:=by
 obtain ⟨h1,h2,h3⟩:=h
 exact ⟨⟨i,h1,hf⟩,by show (c.z (thG th j)).v=v; rw [hg]; exact h2,h3⟩
theorem look_mem2 {th:Th} {i j:Nat} (h:thF th i=some j) (hj:64≤j):(i,j)∈th:=by
 unfold thF at h
 split at h
 ·rename_i e
  cases h
  rw [Nat.blt_eq] at e
  omega
 ·exact look_mem h
theorem way_of {n dn:Nat} (k:OkN (stR n)) (N:NewOk n dn) {nil:Bool} {th ht:Th} (Wy:WayOk nil n th ht dn) {W0 w w':World} {c c':Cx} (A:At (L0 n) 67 c w) (hW:W0.heap.size≤w.heap.size) {sv kv lv:Value} (s1:Lst c 64 sv) (s2:Lst c 65 kv) (s3:Lst c 66 lv) (hl:Le c c') (hav:c'.av dn) (B:At (told nil n ht) 400 c' w') (img:∀i x,ofL (told nil n ht) i=some x→(∃j y,ofL (L0 n) j=some y∧c'.b i=c.b j)∨w.heap.size≤c'.b i):
 ∃d h,(d.b 64=c'.b dn∧d.o 64=c'.o dn)∧Made W0 n d w' h sv kv lv:=by
 obtain ⟨g64,g121,g122,g119⟩:=Wy.d
 obtain ⟨f121,f122,f119,f76,f77,f78,f79⟩:=Wy.fs
 have img2:∀i x,ofL (told nil n ht) i=some x→x.fz=false→W0.heap.size≤c'.b i:=fun i x hx hz=>by
  rcases img i x hx with ⟨j,y,hj,e⟩ |h
  ·have hk:=List.all_eq_true.1 Wy.keep (j,y) (ofL_mem hj)
   dsimp only at hk
   split at hk
   ·rename_i y2 hy2
    have e2:=(hl j (A.hr.at_ j y hj).1).2.1
    rcases B.hr.inj i j x y2 hx hy2 (e.trans e2.symm) with rfl |h
    ·rw [hx] at hy2; cases hy2; rw [hz] at hk; cases hk
    ·rw [hz] at h; cases h.1
   ·cases hk
  ·omega
 have B1:=At.add B 0 {n:=0,x:=none,v:=undef} (by decide)
 have B2:=At.add B1 0 {n:=0,x:=none,v:=undef} (by decide)
 have B3:=At.add B2 0 {n:=0,x:=none,v:=undef} (by decide)
 have B4:=At.add B3 0 {n:=0,x:=none,v:=undef} (by decide)
 have m1:=add_le (c:=c') (i:=400) (B:=0) (z:={n:=0,x:=none,v:=undef}) fun h=>by have:=B.lt _ h; omega
 have m2:=add_le (i:=401) (B:=0) (z:={n:=0,x:=none,v:=undef}) fun h=>by have:=B1.lt _ h; omega
 have m3:=add_le (i:=402) (B:=0) (z:={n:=0,x:=none,v:=undef}) fun h=>by have:=B2.lt _ h; omega
 have m4:=add_le (i:=403) (B:=0) (z:={n:=0,x:=none,v:=undef}) fun h=>by have:=B3.lt _ h; omega
 have a400:=((m2.trans m3).trans m4 400 (.inr rfl)).1
 have a401:=(m3.trans m4 401 (.inr rfl)).1
 have a402:=(m4 402 (.inr rfl)).1
 have m04:=((m1.trans m2).trans m3).trans m4
 generalize hc4:Cx.add _ 403 0 _=c4 at *
 have a403:c4.av 403:=by rw [←hc4]; exact .inr rfl
 clear hc4 m1 m2 m3 m4 B1 B2 B3
 have done:∀(c5:Cx) (L:Hp) (m:Nat),Le c4 c5→At L m c5 w'→renH (thF th) L=some (preL nil n)→(∀i x,ofL L i=some x→x.fz=false→ofL (told nil n ht) i=some x)→(nil=true→Lst c5 404 (.slice none 0 0)∧thF th 404=some 74)→∃d h,(d.b 64=c'.b dn∧d.o 64=c'.o dn)∧Made W0 n d w' h sv kv lv:=fun c5 L m l5 B5 hr hL hnil=>by
  have l05:=m04.trans l5
  have lc5:=hl.trans l05
  have R:=At.ren B5 (n:=123) (by decide) Wy.ok hr
  have inj:∀a b j,thF th a=some j→thF th b=some j→a=b:=fun a b j ha hb=>(thF_ok (n:=123) (by decide) Wy.ok ha).1.symm.trans (thF_ok (n:=123) (by decide) Wy.ok hb).1
  obtain ⟨d,h,hd,M⟩:=made_of (W0:=W0) k N R ⟨⟨400,(l5 400 a400).1,f76⟩,⟨401,(l5 401 a401).1,f77⟩,⟨402,(l5 402 a402).1,f78⟩,⟨403,(l5 403 a403).1,f79⟩⟩
   (fun ⟨i,_,hi⟩=>by
     have:=List.all_eq_true.1 Wy.no _ (look_mem2 hi (by decide))
     exact absurd (show (!(Nat.beq 120 120))=true from this) (by decide))
   (fun j y hy hz=>by
     obtain ⟨i,x,h1,h2,h3⟩:=renH_at inj hr hy
     have hxz:x.fz=false:=by rw [←renO_fz h3]; exact hz
     have h4:=hL i x h1 hxz
     have h5:=img2 i x h4 hxz
     show W0.heap.size≤c5.b (thG th j)
     rw [(thF_ok (n:=123) (by decide) Wy.ok h2).1,(l05 i (B.hr.at_ i x h4).1).2.1]
     exact h5)
   (via_lst f121 g121 (s1.le lc5)) (via_lst f122 g122 (s2.le lc5)) (via_lst f119 g119 (s3.le lc5))
   (fun hn=>by
     obtain ⟨q1,q2⟩:=hnil hn
     exact via_lst q2 (thF_ok (n:=123) (by decide) Wy.ok q2).1 q1)
  refine ⟨d,h,?_,M⟩
  rw [hd.1,hd.2]
  show c5.b (thG th 64)=c'.b dn∧c5.o (thG th 64)=c'.o dn
  rw [g64]
  exact ⟨(l05 dn hav).2.1,(l05 dn hav).2.2.1⟩
 cases nil with
 |false=>exact done c4 _ _ (Le.refl _) B4 Wy.ren (fun i x hx _=>hx) fun h=>by cases h
 |true=>
  obtain ⟨y2,hy2⟩:∃y,ofL (told true n ht) 2=some y:=by
   have hk:=List.all_eq_true.1 Wy.keep (2,sizesO) (by unfold L0; simp)
   dsimp only at hk
   split at hk
   ·exact ⟨_,by assumption⟩
   ·cases hk
  have f2:=(B.hr.at_ 2 y2 hy2).2.lt
  rw [(B.gl 2 (by decide)).2.1] at f2
  have h2:w'.heap[2]? ≠none:=fun h=>by
   rw [Array.getElem?_eq_none_iff] at h
   omega
  have b2:c4.b 2=2:=(B4.gl 2 (by decide)).2.1
  have B5:=At.adds B4 2 0 {n:=1,x:=w'.heap[2]?,v:=.slice none 0 0} (by decide) (p:=[anyI,anyI]) (lo:=0) (hi:=32) rfl ⟨h2,.inl ⟨rfl,rfl,.inl rfl⟩⟩ (fun j y hj e=>by
   cases hz:y.fz with
   |true=>rfl
   |false=>
    have hk:=List.all_eq_true.1 Wy.keep (2,sizesO) (by unfold L0; simp)
    dsimp only at hk
    rw [hy2] at hk
    have hk:y2.fz=true:=hk
    rcases B4.hr.inj j 2 y y2 hj hy2 (e.trans b2.symm) with rfl |h
    ·rw [hj] at hy2; cases hy2; rw [hz] at hk; cases hk
    ·rw [hz] at h; cases h.1)
  have m5:=adds_le (c:=c4) (i:=404) (B:=2) (o:=0) (z:={n:=1,x:=w'.heap[2]?,v:=.slice none 0 0}) fun h=>by have:=B4.lt _ h; omega
  refine done _ _ _ m5 B5 Wy.ren (fun i x hx hz=>?_) fun _=>⟨⟨.inr rfl,by simp [Cx.adds],rfl⟩,?_⟩
  ·rw [ofL_cons] at hx
   split at hx
   ·cases hx; cases hz
   ·exact hx
  ·exact Wy.f74 rfl
theorem new_at {n dn:Nat} (k:OkN (stR n)) (N:NewOk n dn) {W0 w2:World} {c0:Cx} (A0:At [(2,sizesO)] 64 c0 W0) (f:Fr [] W0 w2) {bits hz:Int} {q:Nat→Int} {sv kv lv:Value} {first:Nat} (hb:I64 bits) (h1:0≤hz) (h2:hz≤18446744073709551615) (hq:∀i,I64 (q i)) (hf:first < 18446744073709551616)
 (hs:ListIn W0 [dI,anyI,anyI] n n sv) (hk:ListIn W0 [dI,uI,uI] 0 lotsN kv) (hl:ListIn W0 [anyI,anyI] 0 lotsN lv):
 Calls P 40 #[.agg #[.int .i64 bits,.int .u64 hz,.int .i64 (q 2),.int .i64 (q 3),.int .i64 (q 4),.int .i64 (q 5),.int .i64 (q 6),.int .i64 (q 7),sv,kv,lv,.int .i64 (q 11)],.int .u64 (first:Int)] w2 fun e w3=>Fr [] w2 w3∧∃p kk,e= .returned (.tuple #[.pointer p,.int .i64 kk])∧(kk=0→p.isSome=true→8≤bits∧bits≤64∧∃d h,p=some ⟨d.b 64,0,none⟩∧Made W0 n d w3 h sv kv lv):=by
 obtain ⟨c,A,s1,s2,s3⟩:=lists_at A0 f hs hk hl
 have ar:∀b:Value,VR c b (.int .i64 bits)→LR c (confA b) [.agg ⟨[.int .i64 bits,.int .u64 hz,.int .i64 (q 2),.int .i64 (q 3),.int .i64 (q 4),.int .i64 (q 5),.int .i64 (q 6),.int .i64 (q 7),sv,kv,lv,.int .i64 (q 11)]⟩,.int .u64 (first:Int)]:=fun b hb=>
  .cons (.agg (.cons hb (.cons (.ui _ _ h1 h2) (.cons (.ui _ _ (hq 2).1 (hq 2).2) (.cons (.ui _ _ (hq 3).1 (hq 3).2) (.cons (.ui _ _ (hq 4).1 (hq 4).2) (.cons (.ui _ _ (hq 5).1 (hq 5).2) (.cons (.ui _ _ (hq 6).1 (hq 6).2) (.cons (.ui _ _ (hq 7).1 (hq 7).2) (.cons s1.vr (.cons s2.vr (.cons s3.vr (.cons (.ui _ _ (hq 11).1 (hq 11).2) .nil))))))))))))) (.cons (.ui _ _ (Int.natCast_nonneg _) (show (first:Int)≤18446744073709551615 by omega)) .nil)
 have bad:∀K,ConC P K→K.f=40→∀b:Value,VR c b (.int .i64 bits)→fitsL 67 (useCon K (confA b) ⟨trieL (L0 n),67⟩) [(vErr,[],400)]=true→Calls P 40 #[.agg #[.int .i64 bits,.int .u64 hz,.int .i64 (q 2),.int .i64 (q 3),.int .i64 (q 4),.int .i64 (q 5),.int .i64 (q 6),.int .i64 (q 7),sv,kv,lv,.int .i64 (q 11)],.int .u64 (first:Int)] w2 fun e w3=>Fr [] w2 w3∧∃p kk,e= .returned (.tuple #[.pointer p,.int .i64 kk])∧(kk=0→p.isSome=true→8≤bits∧bits≤64∧∃d h,p=some ⟨d.b 64,0,none⟩∧Made W0 n d w3 h sv kv lv):=fun K hK hKf b hb hfit=>by
  rw [←hKf]
  refine (At.call2 hK hfit A (ar b hb)).mono ?_
  rintro e w3 ⟨o,ho,c',v',rfl,hle,hv,B,st,_⟩
  rw [List.mem_singleton] at ho
  subst ho
  obtain ⟨kk,rfl,hkk⟩:=err_of hv
  exact ⟨stays_fr st,none,kk,rfl,fun h=>by omega⟩
 by_cases hlo:bits≤7
 ·obtain ⟨K,hK,hKf,hfit⟩:=N.low
  exact bad K hK hKf _ (.ui _ _ hb.1 hlo) hfit
 by_cases hhi:65≤bits
 ·obtain ⟨K,hK,hKf,hfit⟩:=N.high
  exact bad K hK hKf _ (.ui _ _ hhi hb.2) hfit
 obtain ⟨K,hK,hKf,tha,hta,thb,htb,hfit,Wa,Wb⟩:=N.main
 rw [←hKf]
 refine (At.call2 hK hfit A (ar anyI (.ui _ _ hb.1 hb.2))).mono ?_
 rintro e w3 ⟨o,ho,c',v',rfl,hle,hv,B,st,img⟩
 have hfr:=stays_fr st
 have ok:∀nil th ht,WayOk nil n th ht dn→VR c' (vOk dn) v'→At (told nil n ht) 400 c' w3→(∀i x,ofL (told nil n ht) i=some x→(∃j y,ofL (L0 n) j=some y∧c'.b i=c.b j)∨w2.heap.size≤c'.b i)→∃p kk,Ending.returned v'= .returned (.tuple #[.pointer p,.int .i64 kk])∧(kk=0→p.isSome=true→8≤bits∧bits≤64∧∃d h,p=some ⟨d.b 64,0,none⟩∧Made W0 n d w3 h sv kv lv):=fun nil th ht Wy hu B img=>by
  clear hv
  cases hu with |tuple hu=>cases hu with |cons p0 hu=>cases hu with |cons k0 hu=>cases hu with |nil=>
  have e0:=ptr_of p0
  have hav:c'.av dn:=by cases p0 with |ptr h=>exact h
  cases k0
  obtain ⟨d,h,hd,M⟩:=way_of k N Wy A f.size s1 s2 s3 hle hav B img
  have o64:c'.o dn=0:=by rw [←hd.2]; exact M.o.1
  subst e0
  exact ⟨some ⟨c'.b dn,c'.o dn+0,none⟩,0,rfl,fun _ _=>⟨by omega,by omega,d,h,by rw [hd.1,o64],M⟩⟩
 rcases List.mem_cons.1 ho with rfl |ho
 ·obtain ⟨kk,rfl,hkk⟩:=err_of hv
  exact ⟨hfr,none,kk,rfl,fun h=>by omega⟩
 ·rcases List.mem_cons.1 ho with rfl |ho
  ·exact ⟨hfr,ok false tha hta Wa hv B img⟩
  ·rw [List.mem_singleton] at ho
   subst ho
   exact ⟨hfr,ok true thb htb Wb hv B img⟩
end Go.Proofs.YtdohkfgflpdkcaaGreatDoor.sym
