/- Mac3: made rows as cells, behind Mac2. -/
import Derived.Test.YthcapeihhldpcaaDoorMac2
import Derived.Test.YthcapeihhldpcaaDoorCel
